import Derived.Test.YtapchldnmkfkoabAmPnNa
set_option linter.unusedVariables false
set_option linter.unusedSimpArgs false
set_option linter.unusedSectionVars false
namespace Go.Proofs.Ytapchldnmkfkoab.Am
open Go Go.Proofs
set_option maxRecDepth 100000
set_option linter.unusedSimpArgs false
set_option linter.unusedVariables false
set_option maxHeartbeats 4000000
theorem laws_heldNodeS_ok0 (hm:Try.prog.follows .mixedOrders = true) (k_laws_heldIntS:Sound Try.prog 113 laws_heldIntS_x) (k_laws_heldPointS:Sound Try.prog 114 laws_heldPointS_x):Sound Try.prog 73 laws_heldNodeS_x:=by
 refine xOf_sound fun q r h=>?_
 obtain ⟨a0,a1⟩:=q
 refine fn_ok E0 hm Try.func73 rfl (by decide +kernel) (by rfl) fun Γ hn hk=>?_
 dsimp only [laws_heldNodeS_e,laws_heldNodeS_v]
 replace hn:Γ.n = 331:=hn
 replace hk:Γ.k = 0:=hk
 have H:HS (laws_heldNodeS a0 a1) r:=h
 clear h;unfold laws_heldNodeS at H
 try simp -implicitDefEqProofs at H
 refine Tr.of_vc (cl:=tabC [(113,laws_heldIntS_x),(114,laws_heldPointS_x)]) (E:=E0) [] (tab_cons k_laws_heldIntS (tab_cons k_laws_heldPointS tab_nil)) hm (by rw [hn];decide +kernel) ?_
 try simp -implicitDefEqProofs (maxSteps:=999999) [-selQ_sel]
 obtain ⟨q,A1,H⟩:=HS.bnd H
 refine Hid.mk (Tr.weak (s':=(laws_heldNodeS_l0_S a0) (a1,0)) (Wk.ofk [] hk (by rfl) (by simp -implicitDefEqProofs [laws_heldNodeS_l0_S]) (by simp -implicitDefEqProofs [laws_heldNodeS_l0_S])) ?_)
 refine wp_loop_of (S:=(laws_heldNodeS_l0_S a0)) (f:=(laws_heldNodeS_l0 a0)) (xt:=(laws_heldNodeS_l0_X a0)) ?_ ?_ A1 ?_
 ·intro q;rcases q with y15 | ⟨⟩ <;> simp [laws_heldNodeS_l0_X]
 ·clear H A1 q
  rintro ⟨x7,x8⟩ o R hf hR
  have H:HS (laws_heldNodeS_l0 a0 (x7,x8)) o:=hf
  clear hf;unfold laws_heldNodeS_l0 at H
  try simp -implicitDefEqProofs at H
  refine Tr.of_vc (cl:=tabC [(113,laws_heldIntS_x),(114,laws_heldPointS_x)]) (E:=E0) [] (tab_cons k_laws_heldIntS (tab_cons k_laws_heldPointS tab_nil)) hm (by rw [hn];decide +kernel) ?_
  try simp -implicitDefEqProofs (maxSteps:=999999) [-selQ_sel,laws_heldNodeS_l0_S]
  refine Hid.brV (fun A2=>?_) (fun A2=>?_)
  ·replace H:=HS.cnd_t A2 H
   try simp -implicitDefEqProofs (maxSteps:=999999) [-selQ_sel,A2]
   have hr:=(HS.some H).symm;subst hr
   exact Hid.mk ⟨(laws_heldNodeS_l0_X a0 (.inl x7)).2,Wk.ofk [] hk (by rfl) (by simp -implicitDefEqProofs [laws_heldNodeS_l0_X,A2]) (by simp -implicitDefEqProofs [laws_heldNodeS_l0_X,A2]),hR⟩
  ·replace H:=HS.cnd_f A2 H
   try simp -implicitDefEqProofs (maxSteps:=999999) [-selQ_sel,A2]
   obtain ⟨v9,A3,H⟩:=HS.bnd H
   try simp -implicitDefEqProofs (maxSteps:=999999) [-selQ_sel,A2,A3]
   refine Hid.brV (fun A4=>?_) (fun A4=>?_)
   ·replace H:=HS.cnd_t A4 H
    try simp -implicitDefEqProofs (maxSteps:=999999) [-selQ_sel,A2,A3,A4]
    refine Hid.brV (fun A5=>?_) (fun A5=>?_)
    ·replace H:=HS.cnd_t A5 H
     try simp -implicitDefEqProofs (maxSteps:=999999) [-selQ_sel,A2,A3,A4,A5]
     refine Hid.brV (fun A6=>?_) (fun A6=>?_)
     ·replace H:=HS.cnd_t A6 H
      try simp -implicitDefEqProofs (maxSteps:=999999) [-selQ_sel,A2,A3,A4,A5,A6]
      refine Hid.brV (fun A7=>?_) (fun A7=>?_)
      ·replace H:=HS.cnd_t A7 H
       try simp -implicitDefEqProofs (maxSteps:=999999) [-selQ_sel,A2,A3,A4,A5,A6,A7]
       refine Hid.brV (fun A8=>?_) (fun A8=>?_)
       ·replace H:=HS.cnd_t A8 H
        try simp -implicitDefEqProofs (maxSteps:=999999) [-selQ_sel,A2,A3,A4,A5,A6,A7,A8]
        refine Hid.brV (fun A9=>?_) (fun A9=>?_)
        ·replace H:=HS.cnd_t A9 H
         try simp -implicitDefEqProofs (maxSteps:=999999) [-selQ_sel,A2,A3,A4,A5,A6,A7,A8,A9]
         refine Hid.brV (fun A10=>?_) (fun A10=>?_)
         ·replace H:=HS.cnd_t A10 H
          try simp -implicitDefEqProofs (maxSteps:=999999) [-selQ_sel,A2,A3,A4,A5,A6,A7,A8,A9,A10]
          refine Hid.brV (fun A11=>?_) (fun A11=>?_)
          ·replace H:=HS.cnd_t A11 H
           try simp -implicitDefEqProofs (maxSteps:=999999) [-selQ_sel,A2,A3,A4,A5,A6,A7,A8,A9,A10,A11]
           refine Hid.brV (fun A12=>?_) (fun A12=>?_)
           ·replace H:=HS.cnd_t A12 H
            try simp -implicitDefEqProofs (maxSteps:=999999) [-selQ_sel,A2,A3,A4,A5,A6,A7,A8,A9,A10,A11,A12]
            obtain ⟨v10,A13,H⟩:=HS.bnd H
            try simp -implicitDefEqProofs (maxSteps:=999999) [-selQ_sel,A2,A3,A4,A5,A6,A7,A8,A9,A10,A11,A12,A13]
            refine Hid.brV (fun A14=>?_) (fun A14=>?_)
            ·replace H:=HS.cnd_t A14 H
             try simp -implicitDefEqProofs (maxSteps:=999999) [-selQ_sel,A2,A3,A4,A5,A6,A7,A8,A9,A10,A11,A12,A13,A14]
             obtain ⟨v11,A15,H⟩:=HS.bnd H
             try simp -implicitDefEqProofs (maxSteps:=999999) [-selQ_sel,A2,A3,A4,A5,A6,A7,A8,A9,A10,A11,A12,A13,A14,A15]
             refine Hid.brV (fun A16=>?_) (fun A16=>?_)
             ·replace H:=HS.cnd_t A16 H
              try simp -implicitDefEqProofs (maxSteps:=999999) [-selQ_sel,A2,A3,A4,A5,A6,A7,A8,A9,A10,A11,A12,A13,A14,A15,A16]
              refine Hid.brV (fun A17=>?_) (fun A17=>?_)
              ·replace H:=HS.cnd_t A17 H
               try simp -implicitDefEqProofs (maxSteps:=999999) [-selQ_sel,A2,A3,A4,A5,A6,A7,A8,A9,A10,A11,A12,A13,A14,A15,A16,A17]
               refine Hid.brV (fun A18=>?_) (fun A18=>?_)
               ·replace H:=HS.cnd_t A18 H
                try simp -implicitDefEqProofs (maxSteps:=999999) [-selQ_sel,A2,A3,A4,A5,A6,A7,A8,A9,A10,A11,A12,A13,A14,A15,A16,A17,A18]
                obtain ⟨v12,A19,H⟩:=HS.bnd H
                try simp -implicitDefEqProofs (maxSteps:=999999) [-selQ_sel,A2,A3,A4,A5,A6,A7,A8,A9,A10,A11,A12,A13,A14,A15,A16,A17,A18,A19]
                refine Hid.brV (fun A20=>?_) (fun A20=>?_)
                ·replace H:=HS.cnd_t A20 H
                 try simp -implicitDefEqProofs (maxSteps:=999999) [-selQ_sel,A2,A3,A4,A5,A6,A7,A8,A9,A10,A11,A12,A13,A14,A15,A16,A17,A18,A19,A20]
                 refine Hid.brV (fun A21=>?_) (fun A21=>?_)
                 ·replace H:=HS.cnd_t A21 H
                  try simp -implicitDefEqProofs (maxSteps:=999999) [-selQ_sel,A2,A3,A4,A5,A6,A7,A8,A9,A10,A11,A12,A13,A14,A15,A16,A17,A18,A19,A20,A21]
                  refine Hid.brV (fun A22=>?_) (fun A22=>?_)
                  ·replace H:=HS.cnd_t A22 H
                   try simp -implicitDefEqProofs (maxSteps:=999999) [-selQ_sel,A2,A3,A4,A5,A6,A7,A8,A9,A10,A11,A12,A13,A14,A15,A16,A17,A18,A19,A20,A21,A22]
                   refine Hid.brV (fun A23=>?_) (fun A23=>?_)
                   ·replace H:=HS.cnd_t A23 H
                    try simp -implicitDefEqProofs (maxSteps:=999999) [-selQ_sel,A2,A3,A4,A5,A6,A7,A8,A9,A10,A11,A12,A13,A14,A15,A16,A17,A18,A19,A20,A21,A22,A23]
                    refine Hid.brV (fun A24=>?_) (fun A24=>?_)
                    ·replace H:=HS.cnd_t A24 H
                     try simp -implicitDefEqProofs (maxSteps:=999999) [-selQ_sel,A2,A3,A4,A5,A6,A7,A8,A9,A10,A11,A12,A13,A14,A15,A16,A17,A18,A19,A20,A21,A22,A23,A24]
                     refine Hid.brV (fun A25=>?_) (fun A25=>?_)
                     ·replace H:=HS.cnd_t A25 H
                      try simp -implicitDefEqProofs (maxSteps:=999999) [-selQ_sel,A2,A3,A4,A5,A6,A7,A8,A9,A10,A11,A12,A13,A14,A15,A16,A17,A18,A19,A20,A21,A22,A23,A24,A25]
                      refine Hid.brV (fun A26=>?_) (fun A26=>?_)
                      ·replace H:=HS.cnd_t A26 H
                       try simp -implicitDefEqProofs (maxSteps:=999999) [-selQ_sel,A2,A3,A4,A5,A6,A7,A8,A9,A10,A11,A12,A13,A14,A15,A16,A17,A18,A19,A20,A21,A22,A23,A24,A25,A26]
                       refine Hid.brV (fun A27=>?_) (fun A27=>?_)
                       ·replace H:=HS.cnd_t A27 H
                        try simp -implicitDefEqProofs (maxSteps:=999999) [-selQ_sel,A2,A3,A4,A5,A6,A7,A8,A9,A10,A11,A12,A13,A14,A15,A16,A17,A18,A19,A20,A21,A22,A23,A24,A25,A26,A27]
                        refine Hid.brV (fun A28=>?_) (fun A28=>?_)
                        ·replace H:=HS.cnd_t A28 H
                         try simp -implicitDefEqProofs (maxSteps:=999999) [-selQ_sel,A2,A3,A4,A5,A6,A7,A8,A9,A10,A11,A12,A13,A14,A15,A16,A17,A18,A19,A20,A21,A22,A23,A24,A25,A26,A27,A28]
                         refine Hid.brV (fun A29=>?_) (fun A29=>?_)
                         ·replace H:=HS.cnd_t A29 H
                          try simp -implicitDefEqProofs (maxSteps:=999999) [-selQ_sel,A2,A3,A4,A5,A6,A7,A8,A9,A10,A11,A12,A13,A14,A15,A16,A17,A18,A19,A20,A21,A22,A23,A24,A25,A26,A27,A28,A29]
                          refine Hid.brV (fun A30=>?_) (fun A30=>?_)
                          ·replace H:=HS.cnd_t A30 H
                           try simp -implicitDefEqProofs (maxSteps:=999999) [-selQ_sel,A2,A3,A4,A5,A6,A7,A8,A9,A10,A11,A12,A13,A14,A15,A16,A17,A18,A19,A20,A21,A22,A23,A24,A25,A26,A27,A28,A29,A30]
                           refine Hid.brV (fun A31=>?_) (fun A31=>?_)
                           ·replace H:=HS.cnd_t A31 H
                            try simp -implicitDefEqProofs (maxSteps:=999999) [-selQ_sel,A2,A3,A4,A5,A6,A7,A8,A9,A10,A11,A12,A13,A14,A15,A16,A17,A18,A19,A20,A21,A22,A23,A24,A25,A26,A27,A28,A29,A30,A31]
                            refine Hid.brV (fun A32=>?_) (fun A32=>?_)
                            ·replace H:=HS.cnd_t A32 H
                             try simp -implicitDefEqProofs (maxSteps:=999999) [-selQ_sel,A2,A3,A4,A5,A6,A7,A8,A9,A10,A11,A12,A13,A14,A15,A16,A17,A18,A19,A20,A21,A22,A23,A24,A25,A26,A27,A28,A29,A30,A31,A32]
                             refine Hid.brV (fun A33=>?_) (fun A33=>?_)
                             ·replace H:=HS.cnd_t A33 H
                              try simp -implicitDefEqProofs (maxSteps:=999999) [-selQ_sel,A2,A3,A4,A5,A6,A7,A8,A9,A10,A11,A12,A13,A14,A15,A16,A17,A18,A19,A20,A21,A22,A23,A24,A25,A26,A27,A28,A29,A30,A31,A32,A33]
                              refine Hid.brV (fun A34=>?_) (fun A34=>?_)
                              ·replace H:=HS.cnd_t A34 H
                               try simp -implicitDefEqProofs (maxSteps:=999999) [-selQ_sel,A2,A3,A4,A5,A6,A7,A8,A9,A10,A11,A12,A13,A14,A15,A16,A17,A18,A19,A20,A21,A22,A23,A24,A25,A26,A27,A28,A29,A30,A31,A32,A33,A34]
                               refine Hid.brV (fun A35=>?_) (fun A35=>?_)
                               ·replace H:=HS.cnd_t A35 H
                                try simp -implicitDefEqProofs (maxSteps:=999999) [-selQ_sel,A2,A3,A4,A5,A6,A7,A8,A9,A10,A11,A12,A13,A14,A15,A16,A17,A18,A19,A20,A21,A22,A23,A24,A25,A26,A27,A28,A29,A30,A31,A32,A33,A34,A35]
                                obtain ⟨v13,A36,H⟩:=HS.bnd H
                                try simp -implicitDefEqProofs (maxSteps:=999999) [-selQ_sel,A2,A3,A4,A5,A6,A7,A8,A9,A10,A11,A12,A13,A14,A15,A16,A17,A18,A19,A20,A21,A22,A23,A24,A25,A26,A27,A28,A29,A30,A31,A32,A33,A34,A35,A36]
                                refine Hid.brV (fun A37=>?_) (fun A37=>?_)
                                ·replace H:=HS.cnd_t A37 H
                                 try simp -implicitDefEqProofs (maxSteps:=999999) [-selQ_sel,A2,A3,A4,A5,A6,A7,A8,A9,A10,A11,A12,A13,A14,A15,A16,A17,A18,A19,A20,A21,A22,A23,A24,A25,A26,A27,A28,A29,A30,A31,A32,A33,A34,A35,A36,A37]
                                 obtain ⟨v14,A38,H⟩:=HS.bnd H
                                 try simp -implicitDefEqProofs (maxSteps:=999999) [-selQ_sel,A2,A3,A4,A5,A6,A7,A8,A9,A10,A11,A12,A13,A14,A15,A16,A17,A18,A19,A20,A21,A22,A23,A24,A25,A26,A27,A28,A29,A30,A31,A32,A33,A34,A35,A36,A37,A38]
                                 refine Hid.brV (fun A39=>?_) (fun A39=>?_)
                                 ·replace H:=HS.cnd_t A39 H
                                  try simp -implicitDefEqProofs (maxSteps:=999999) [-selQ_sel,A2,A3,A4,A5,A6,A7,A8,A9,A10,A11,A12,A13,A14,A15,A16,A17,A18,A19,A20,A21,A22,A23,A24,A25,A26,A27,A28,A29,A30,A31,A32,A33,A34,A35,A36,A37,A38,A39]
                                  have hr:=(HS.some H).symm;subst hr
                                  exact Hid.mk ⟨laws_heldNodeS_l0_S a0 (v14,(IntKind.i64.wrap (x8 + 1))),Wk.ofk [] hk (by rfl) (by simp -implicitDefEqProofs [laws_heldNodeS_l0_S,A2,A3,A4,A5,A6,A7,A8,A9,A10,A11,A12,A13,A14,A15,A16,A17,A18,A19,A20,A21,A22,A23,A24,A25,A26,A27,A28,A29,A30,A31,A32,A33,A34,A35,A36,A37,A38,A39]) (by simp -implicitDefEqProofs [laws_heldNodeS_l0_S,A2,A3,A4,A5,A6,A7,A8,A9,A10,A11,A12,A13,A14,A15,A16,A17,A18,A19,A20,A21,A22,A23,A24,A25,A26,A27,A28,A29,A30,A31,A32,A33,A34,A35,A36,A37,A38,A39]),hR⟩
                                 ·replace H:=HS.cnd_f A39 H
                                  try simp -implicitDefEqProofs (maxSteps:=999999) [-selQ_sel,A2,A3,A4,A5,A6,A7,A8,A9,A10,A11,A12,A13,A14,A15,A16,A17,A18,A19,A20,A21,A22,A23,A24,A25,A26,A27,A28,A29,A30,A31,A32,A33,A34,A35,A36,A37,A38,A39]
                                  have hr:=(HS.some H).symm;subst hr
                                  exact Hid.mk ⟨(laws_heldNodeS_l0_X a0 (.inr ())).2,Wk.ofk [] hk (by rfl) (by simp -implicitDefEqProofs [laws_heldNodeS_l0_X,A2,A3,A4,A5,A6,A7,A8,A9,A10,A11,A12,A13,A14,A15,A16,A17,A18,A19,A20,A21,A22,A23,A24,A25,A26,A27,A28,A29,A30,A31,A32,A33,A34,A35,A36,A37,A38,A39]) (by simp -implicitDefEqProofs [laws_heldNodeS_l0_X,A2,A3,A4,A5,A6,A7,A8,A9,A10,A11,A12,A13,A14,A15,A16,A17,A18,A19,A20,A21,A22,A23,A24,A25,A26,A27,A28,A29,A30,A31,A32,A33,A34,A35,A36,A37,A38,A39]),hR⟩
                                ·replace H:=HS.cnd_f A37 H
                                 try simp -implicitDefEqProofs (maxSteps:=999999) [-selQ_sel,A2,A3,A4,A5,A6,A7,A8,A9,A10,A11,A12,A13,A14,A15,A16,A17,A18,A19,A20,A21,A22,A23,A24,A25,A26,A27,A28,A29,A30,A31,A32,A33,A34,A35,A36,A37]
                                 have hr:=(HS.some H).symm;subst hr
                                 exact Hid.mk ⟨(laws_heldNodeS_l0_X a0 (.inr ())).2,Wk.ofk [] hk (by rfl) (by simp -implicitDefEqProofs [laws_heldNodeS_l0_X,A2,A3,A4,A5,A6,A7,A8,A9,A10,A11,A12,A13,A14,A15,A16,A17,A18,A19,A20,A21,A22,A23,A24,A25,A26,A27,A28,A29,A30,A31,A32,A33,A34,A35,A36,A37]) (by simp -implicitDefEqProofs [laws_heldNodeS_l0_X,A2,A3,A4,A5,A6,A7,A8,A9,A10,A11,A12,A13,A14,A15,A16,A17,A18,A19,A20,A21,A22,A23,A24,A25,A26,A27,A28,A29,A30,A31,A32,A33,A34,A35,A36,A37]),hR⟩
                               ·replace H:=HS.cnd_f A35 H
                                try simp -implicitDefEqProofs (maxSteps:=999999) [-selQ_sel,A2,A3,A4,A5,A6,A7,A8,A9,A10,A11,A12,A13,A14,A15,A16,A17,A18,A19,A20,A21,A22,A23,A24,A25,A26,A27,A28,A29,A30,A31,A32,A33,A34,A35]
                                have hr:=(HS.some H).symm;subst hr
                                exact Hid.mk ⟨(laws_heldNodeS_l0_X a0 (.inr ())).2,Wk.ofk [] hk (by rfl) (by simp -implicitDefEqProofs [laws_heldNodeS_l0_X,A2,A3,A4,A5,A6,A7,A8,A9,A10,A11,A12,A13,A14,A15,A16,A17,A18,A19,A20,A21,A22,A23,A24,A25,A26,A27,A28,A29,A30,A31,A32,A33,A34,A35]) (by simp -implicitDefEqProofs [laws_heldNodeS_l0_X,A2,A3,A4,A5,A6,A7,A8,A9,A10,A11,A12,A13,A14,A15,A16,A17,A18,A19,A20,A21,A22,A23,A24,A25,A26,A27,A28,A29,A30,A31,A32,A33,A34,A35]),hR⟩
                              ·replace H:=HS.cnd_f A34 H
                               try simp -implicitDefEqProofs (maxSteps:=999999) [-selQ_sel,A2,A3,A4,A5,A6,A7,A8,A9,A10,A11,A12,A13,A14,A15,A16,A17,A18,A19,A20,A21,A22,A23,A24,A25,A26,A27,A28,A29,A30,A31,A32,A33,A34]
                               have hr:=(HS.some H).symm;subst hr
                               exact Hid.mk ⟨(laws_heldNodeS_l0_X a0 (.inr ())).2,Wk.ofk [] hk (by rfl) (by simp -implicitDefEqProofs [laws_heldNodeS_l0_X,A2,A3,A4,A5,A6,A7,A8,A9,A10,A11,A12,A13,A14,A15,A16,A17,A18,A19,A20,A21,A22,A23,A24,A25,A26,A27,A28,A29,A30,A31,A32,A33,A34]) (by simp -implicitDefEqProofs [laws_heldNodeS_l0_X,A2,A3,A4,A5,A6,A7,A8,A9,A10,A11,A12,A13,A14,A15,A16,A17,A18,A19,A20,A21,A22,A23,A24,A25,A26,A27,A28,A29,A30,A31,A32,A33,A34]),hR⟩
                             ·replace H:=HS.cnd_f A33 H
                              try simp -implicitDefEqProofs (maxSteps:=999999) [-selQ_sel,A2,A3,A4,A5,A6,A7,A8,A9,A10,A11,A12,A13,A14,A15,A16,A17,A18,A19,A20,A21,A22,A23,A24,A25,A26,A27,A28,A29,A30,A31,A32,A33]
                              have hr:=(HS.some H).symm;subst hr
                              exact Hid.mk ⟨(laws_heldNodeS_l0_X a0 (.inr ())).2,Wk.ofk [] hk (by rfl) (by simp -implicitDefEqProofs [laws_heldNodeS_l0_X,A2,A3,A4,A5,A6,A7,A8,A9,A10,A11,A12,A13,A14,A15,A16,A17,A18,A19,A20,A21,A22,A23,A24,A25,A26,A27,A28,A29,A30,A31,A32,A33]) (by simp -implicitDefEqProofs [laws_heldNodeS_l0_X,A2,A3,A4,A5,A6,A7,A8,A9,A10,A11,A12,A13,A14,A15,A16,A17,A18,A19,A20,A21,A22,A23,A24,A25,A26,A27,A28,A29,A30,A31,A32,A33]),hR⟩
                            ·replace H:=HS.cnd_f A32 H
                             try simp -implicitDefEqProofs (maxSteps:=999999) [-selQ_sel,A2,A3,A4,A5,A6,A7,A8,A9,A10,A11,A12,A13,A14,A15,A16,A17,A18,A19,A20,A21,A22,A23,A24,A25,A26,A27,A28,A29,A30,A31,A32]
                             have hr:=(HS.some H).symm;subst hr
                             exact Hid.mk ⟨(laws_heldNodeS_l0_X a0 (.inr ())).2,Wk.ofk [] hk (by rfl) (by simp -implicitDefEqProofs [laws_heldNodeS_l0_X,A2,A3,A4,A5,A6,A7,A8,A9,A10,A11,A12,A13,A14,A15,A16,A17,A18,A19,A20,A21,A22,A23,A24,A25,A26,A27,A28,A29,A30,A31,A32]) (by simp -implicitDefEqProofs [laws_heldNodeS_l0_X,A2,A3,A4,A5,A6,A7,A8,A9,A10,A11,A12,A13,A14,A15,A16,A17,A18,A19,A20,A21,A22,A23,A24,A25,A26,A27,A28,A29,A30,A31,A32]),hR⟩
                           ·replace H:=HS.cnd_f A31 H
                            try simp -implicitDefEqProofs (maxSteps:=999999) [-selQ_sel,A2,A3,A4,A5,A6,A7,A8,A9,A10,A11,A12,A13,A14,A15,A16,A17,A18,A19,A20,A21,A22,A23,A24,A25,A26,A27,A28,A29,A30,A31]
                            have hr:=(HS.some H).symm;subst hr
                            exact Hid.mk ⟨(laws_heldNodeS_l0_X a0 (.inr ())).2,Wk.ofk [] hk (by rfl) (by simp -implicitDefEqProofs [laws_heldNodeS_l0_X,A2,A3,A4,A5,A6,A7,A8,A9,A10,A11,A12,A13,A14,A15,A16,A17,A18,A19,A20,A21,A22,A23,A24,A25,A26,A27,A28,A29,A30,A31]) (by simp -implicitDefEqProofs [laws_heldNodeS_l0_X,A2,A3,A4,A5,A6,A7,A8,A9,A10,A11,A12,A13,A14,A15,A16,A17,A18,A19,A20,A21,A22,A23,A24,A25,A26,A27,A28,A29,A30,A31]),hR⟩
                          ·replace H:=HS.cnd_f A30 H
                           try simp -implicitDefEqProofs (maxSteps:=999999) [-selQ_sel,A2,A3,A4,A5,A6,A7,A8,A9,A10,A11,A12,A13,A14,A15,A16,A17,A18,A19,A20,A21,A22,A23,A24,A25,A26,A27,A28,A29,A30]
                           have hr:=(HS.some H).symm;subst hr
                           exact Hid.mk ⟨(laws_heldNodeS_l0_X a0 (.inr ())).2,Wk.ofk [] hk (by rfl) (by simp -implicitDefEqProofs [laws_heldNodeS_l0_X,A2,A3,A4,A5,A6,A7,A8,A9,A10,A11,A12,A13,A14,A15,A16,A17,A18,A19,A20,A21,A22,A23,A24,A25,A26,A27,A28,A29,A30]) (by simp -implicitDefEqProofs [laws_heldNodeS_l0_X,A2,A3,A4,A5,A6,A7,A8,A9,A10,A11,A12,A13,A14,A15,A16,A17,A18,A19,A20,A21,A22,A23,A24,A25,A26,A27,A28,A29,A30]),hR⟩
                         ·replace H:=HS.cnd_f A29 H
                          try simp -implicitDefEqProofs (maxSteps:=999999) [-selQ_sel,A2,A3,A4,A5,A6,A7,A8,A9,A10,A11,A12,A13,A14,A15,A16,A17,A18,A19,A20,A21,A22,A23,A24,A25,A26,A27,A28,A29]
                          have hr:=(HS.some H).symm;subst hr
                          exact Hid.mk ⟨(laws_heldNodeS_l0_X a0 (.inr ())).2,Wk.ofk [] hk (by rfl) (by simp -implicitDefEqProofs [laws_heldNodeS_l0_X,A2,A3,A4,A5,A6,A7,A8,A9,A10,A11,A12,A13,A14,A15,A16,A17,A18,A19,A20,A21,A22,A23,A24,A25,A26,A27,A28,A29]) (by simp -implicitDefEqProofs [laws_heldNodeS_l0_X,A2,A3,A4,A5,A6,A7,A8,A9,A10,A11,A12,A13,A14,A15,A16,A17,A18,A19,A20,A21,A22,A23,A24,A25,A26,A27,A28,A29]),hR⟩
                        ·replace H:=HS.cnd_f A28 H
                         try simp -implicitDefEqProofs (maxSteps:=999999) [-selQ_sel,A2,A3,A4,A5,A6,A7,A8,A9,A10,A11,A12,A13,A14,A15,A16,A17,A18,A19,A20,A21,A22,A23,A24,A25,A26,A27,A28]
                         have hr:=(HS.some H).symm;subst hr
                         exact Hid.mk ⟨(laws_heldNodeS_l0_X a0 (.inr ())).2,Wk.ofk [] hk (by rfl) (by simp -implicitDefEqProofs [laws_heldNodeS_l0_X,A2,A3,A4,A5,A6,A7,A8,A9,A10,A11,A12,A13,A14,A15,A16,A17,A18,A19,A20,A21,A22,A23,A24,A25,A26,A27,A28]) (by simp -implicitDefEqProofs [laws_heldNodeS_l0_X,A2,A3,A4,A5,A6,A7,A8,A9,A10,A11,A12,A13,A14,A15,A16,A17,A18,A19,A20,A21,A22,A23,A24,A25,A26,A27,A28]),hR⟩
                       ·replace H:=HS.cnd_f A27 H
                        try simp -implicitDefEqProofs (maxSteps:=999999) [-selQ_sel,A2,A3,A4,A5,A6,A7,A8,A9,A10,A11,A12,A13,A14,A15,A16,A17,A18,A19,A20,A21,A22,A23,A24,A25,A26,A27]
                        have hr:=(HS.some H).symm;subst hr
                        exact Hid.mk ⟨(laws_heldNodeS_l0_X a0 (.inr ())).2,Wk.ofk [] hk (by rfl) (by simp -implicitDefEqProofs [laws_heldNodeS_l0_X,A2,A3,A4,A5,A6,A7,A8,A9,A10,A11,A12,A13,A14,A15,A16,A17,A18,A19,A20,A21,A22,A23,A24,A25,A26,A27]) (by simp -implicitDefEqProofs [laws_heldNodeS_l0_X,A2,A3,A4,A5,A6,A7,A8,A9,A10,A11,A12,A13,A14,A15,A16,A17,A18,A19,A20,A21,A22,A23,A24,A25,A26,A27]),hR⟩
                      ·replace H:=HS.cnd_f A26 H
                       try simp -implicitDefEqProofs (maxSteps:=999999) [-selQ_sel,A2,A3,A4,A5,A6,A7,A8,A9,A10,A11,A12,A13,A14,A15,A16,A17,A18,A19,A20,A21,A22,A23,A24,A25,A26]
                       have hr:=(HS.some H).symm;subst hr
                       exact Hid.mk ⟨(laws_heldNodeS_l0_X a0 (.inr ())).2,Wk.ofk [] hk (by rfl) (by simp -implicitDefEqProofs [laws_heldNodeS_l0_X,A2,A3,A4,A5,A6,A7,A8,A9,A10,A11,A12,A13,A14,A15,A16,A17,A18,A19,A20,A21,A22,A23,A24,A25,A26]) (by simp -implicitDefEqProofs [laws_heldNodeS_l0_X,A2,A3,A4,A5,A6,A7,A8,A9,A10,A11,A12,A13,A14,A15,A16,A17,A18,A19,A20,A21,A22,A23,A24,A25,A26]),hR⟩
                     ·replace H:=HS.cnd_f A25 H
                      try simp -implicitDefEqProofs (maxSteps:=999999) [-selQ_sel,A2,A3,A4,A5,A6,A7,A8,A9,A10,A11,A12,A13,A14,A15,A16,A17,A18,A19,A20,A21,A22,A23,A24,A25]
                      have hr:=(HS.some H).symm;subst hr
                      exact Hid.mk ⟨(laws_heldNodeS_l0_X a0 (.inr ())).2,Wk.ofk [] hk (by rfl) (by simp -implicitDefEqProofs [laws_heldNodeS_l0_X,A2,A3,A4,A5,A6,A7,A8,A9,A10,A11,A12,A13,A14,A15,A16,A17,A18,A19,A20,A21,A22,A23,A24,A25]) (by simp -implicitDefEqProofs [laws_heldNodeS_l0_X,A2,A3,A4,A5,A6,A7,A8,A9,A10,A11,A12,A13,A14,A15,A16,A17,A18,A19,A20,A21,A22,A23,A24,A25]),hR⟩
                    ·replace H:=HS.cnd_f A24 H
                     try simp -implicitDefEqProofs (maxSteps:=999999) [-selQ_sel,A2,A3,A4,A5,A6,A7,A8,A9,A10,A11,A12,A13,A14,A15,A16,A17,A18,A19,A20,A21,A22,A23,A24]
                     have hr:=(HS.some H).symm;subst hr
                     exact Hid.mk ⟨(laws_heldNodeS_l0_X a0 (.inr ())).2,Wk.ofk [] hk (by rfl) (by simp -implicitDefEqProofs [laws_heldNodeS_l0_X,A2,A3,A4,A5,A6,A7,A8,A9,A10,A11,A12,A13,A14,A15,A16,A17,A18,A19,A20,A21,A22,A23,A24]) (by simp -implicitDefEqProofs [laws_heldNodeS_l0_X,A2,A3,A4,A5,A6,A7,A8,A9,A10,A11,A12,A13,A14,A15,A16,A17,A18,A19,A20,A21,A22,A23,A24]),hR⟩
                   ·replace H:=HS.cnd_f A23 H
                    try simp -implicitDefEqProofs (maxSteps:=999999) [-selQ_sel,A2,A3,A4,A5,A6,A7,A8,A9,A10,A11,A12,A13,A14,A15,A16,A17,A18,A19,A20,A21,A22,A23]
                    have hr:=(HS.some H).symm;subst hr
                    exact Hid.mk ⟨(laws_heldNodeS_l0_X a0 (.inr ())).2,Wk.ofk [] hk (by rfl) (by simp -implicitDefEqProofs [laws_heldNodeS_l0_X,A2,A3,A4,A5,A6,A7,A8,A9,A10,A11,A12,A13,A14,A15,A16,A17,A18,A19,A20,A21,A22,A23]) (by simp -implicitDefEqProofs [laws_heldNodeS_l0_X,A2,A3,A4,A5,A6,A7,A8,A9,A10,A11,A12,A13,A14,A15,A16,A17,A18,A19,A20,A21,A22,A23]),hR⟩
                  ·replace H:=HS.cnd_f A22 H
                   try simp -implicitDefEqProofs (maxSteps:=999999) [-selQ_sel,A2,A3,A4,A5,A6,A7,A8,A9,A10,A11,A12,A13,A14,A15,A16,A17,A18,A19,A20,A21,A22]
                   have hr:=(HS.some H).symm;subst hr
                   exact Hid.mk ⟨(laws_heldNodeS_l0_X a0 (.inr ())).2,Wk.ofk [] hk (by rfl) (by simp -implicitDefEqProofs [laws_heldNodeS_l0_X,A2,A3,A4,A5,A6,A7,A8,A9,A10,A11,A12,A13,A14,A15,A16,A17,A18,A19,A20,A21,A22]) (by simp -implicitDefEqProofs [laws_heldNodeS_l0_X,A2,A3,A4,A5,A6,A7,A8,A9,A10,A11,A12,A13,A14,A15,A16,A17,A18,A19,A20,A21,A22]),hR⟩
                 ·replace H:=HS.cnd_f A21 H
                  try simp -implicitDefEqProofs (maxSteps:=999999) [-selQ_sel,A2,A3,A4,A5,A6,A7,A8,A9,A10,A11,A12,A13,A14,A15,A16,A17,A18,A19,A20,A21]
                  have hr:=(HS.some H).symm;subst hr
                  exact Hid.mk ⟨(laws_heldNodeS_l0_X a0 (.inr ())).2,Wk.ofk [] hk (by rfl) (by simp -implicitDefEqProofs [laws_heldNodeS_l0_X,A2,A3,A4,A5,A6,A7,A8,A9,A10,A11,A12,A13,A14,A15,A16,A17,A18,A19,A20,A21]) (by simp -implicitDefEqProofs [laws_heldNodeS_l0_X,A2,A3,A4,A5,A6,A7,A8,A9,A10,A11,A12,A13,A14,A15,A16,A17,A18,A19,A20,A21]),hR⟩
                ·replace H:=HS.cnd_f A20 H
                 try simp -implicitDefEqProofs (maxSteps:=999999) [-selQ_sel,A2,A3,A4,A5,A6,A7,A8,A9,A10,A11,A12,A13,A14,A15,A16,A17,A18,A19,A20]
                 have hr:=(HS.some H).symm;subst hr
                 exact Hid.mk ⟨(laws_heldNodeS_l0_X a0 (.inr ())).2,Wk.ofk [] hk (by rfl) (by simp -implicitDefEqProofs [laws_heldNodeS_l0_X,A2,A3,A4,A5,A6,A7,A8,A9,A10,A11,A12,A13,A14,A15,A16,A17,A18,A19,A20]) (by simp -implicitDefEqProofs [laws_heldNodeS_l0_X,A2,A3,A4,A5,A6,A7,A8,A9,A10,A11,A12,A13,A14,A15,A16,A17,A18,A19,A20]),hR⟩
               ·replace H:=HS.cnd_f A18 H
                try simp -implicitDefEqProofs (maxSteps:=999999) [-selQ_sel,A2,A3,A4,A5,A6,A7,A8,A9,A10,A11,A12,A13,A14,A15,A16,A17,A18]
                have hr:=(HS.some H).symm;subst hr
                exact Hid.mk ⟨(laws_heldNodeS_l0_X a0 (.inr ())).2,Wk.ofk [] hk (by rfl) (by simp -implicitDefEqProofs [laws_heldNodeS_l0_X,A2,A3,A4,A5,A6,A7,A8,A9,A10,A11,A12,A13,A14,A15,A16,A17,A18]) (by simp -implicitDefEqProofs [laws_heldNodeS_l0_X,A2,A3,A4,A5,A6,A7,A8,A9,A10,A11,A12,A13,A14,A15,A16,A17,A18]),hR⟩
              ·replace H:=HS.cnd_f A17 H
               try simp -implicitDefEqProofs (maxSteps:=999999) [-selQ_sel,A2,A3,A4,A5,A6,A7,A8,A9,A10,A11,A12,A13,A14,A15,A16,A17]
               have hr:=(HS.some H).symm;subst hr
               exact Hid.mk ⟨(laws_heldNodeS_l0_X a0 (.inr ())).2,Wk.ofk [] hk (by rfl) (by simp -implicitDefEqProofs [laws_heldNodeS_l0_X,A2,A3,A4,A5,A6,A7,A8,A9,A10,A11,A12,A13,A14,A15,A16,A17]) (by simp -implicitDefEqProofs [laws_heldNodeS_l0_X,A2,A3,A4,A5,A6,A7,A8,A9,A10,A11,A12,A13,A14,A15,A16,A17]),hR⟩
             ·replace H:=HS.cnd_f A16 H
              try simp -implicitDefEqProofs (maxSteps:=999999) [-selQ_sel,A2,A3,A4,A5,A6,A7,A8,A9,A10,A11,A12,A13,A14,A15,A16]
              have hr:=(HS.some H).symm;subst hr
              exact Hid.mk ⟨(laws_heldNodeS_l0_X a0 (.inr ())).2,Wk.ofk [] hk (by rfl) (by simp -implicitDefEqProofs [laws_heldNodeS_l0_X,A2,A3,A4,A5,A6,A7,A8,A9,A10,A11,A12,A13,A14,A15,A16]) (by simp -implicitDefEqProofs [laws_heldNodeS_l0_X,A2,A3,A4,A5,A6,A7,A8,A9,A10,A11,A12,A13,A14,A15,A16]),hR⟩
            ·replace H:=HS.cnd_f A14 H
             try simp -implicitDefEqProofs (maxSteps:=999999) [-selQ_sel,A2,A3,A4,A5,A6,A7,A8,A9,A10,A11,A12,A13,A14]
             have hr:=(HS.some H).symm;subst hr
             exact Hid.mk ⟨(laws_heldNodeS_l0_X a0 (.inr ())).2,Wk.ofk [] hk (by rfl) (by simp -implicitDefEqProofs [laws_heldNodeS_l0_X,A2,A3,A4,A5,A6,A7,A8,A9,A10,A11,A12,A13,A14]) (by simp -implicitDefEqProofs [laws_heldNodeS_l0_X,A2,A3,A4,A5,A6,A7,A8,A9,A10,A11,A12,A13,A14]),hR⟩
           ·replace H:=HS.cnd_f A12 H
            try simp -implicitDefEqProofs (maxSteps:=999999) [-selQ_sel,A2,A3,A4,A5,A6,A7,A8,A9,A10,A11,A12]
            have hr:=(HS.some H).symm;subst hr
            exact Hid.mk ⟨(laws_heldNodeS_l0_X a0 (.inr ())).2,Wk.ofk [] hk (by rfl) (by simp -implicitDefEqProofs [laws_heldNodeS_l0_X,A2,A3,A4,A5,A6,A7,A8,A9,A10,A11,A12]) (by simp -implicitDefEqProofs [laws_heldNodeS_l0_X,A2,A3,A4,A5,A6,A7,A8,A9,A10,A11,A12]),hR⟩
          ·replace H:=HS.cnd_f A11 H
           try simp -implicitDefEqProofs (maxSteps:=999999) [-selQ_sel,A2,A3,A4,A5,A6,A7,A8,A9,A10,A11]
           have hr:=(HS.some H).symm;subst hr
           exact Hid.mk ⟨(laws_heldNodeS_l0_X a0 (.inr ())).2,Wk.ofk [] hk (by rfl) (by simp -implicitDefEqProofs [laws_heldNodeS_l0_X,A2,A3,A4,A5,A6,A7,A8,A9,A10,A11]) (by simp -implicitDefEqProofs [laws_heldNodeS_l0_X,A2,A3,A4,A5,A6,A7,A8,A9,A10,A11]),hR⟩
         ·replace H:=HS.cnd_f A10 H
          try simp -implicitDefEqProofs (maxSteps:=999999) [-selQ_sel,A2,A3,A4,A5,A6,A7,A8,A9,A10]
          have hr:=(HS.some H).symm;subst hr
          exact Hid.mk ⟨(laws_heldNodeS_l0_X a0 (.inr ())).2,Wk.ofk [] hk (by rfl) (by simp -implicitDefEqProofs [laws_heldNodeS_l0_X,A2,A3,A4,A5,A6,A7,A8,A9,A10]) (by simp -implicitDefEqProofs [laws_heldNodeS_l0_X,A2,A3,A4,A5,A6,A7,A8,A9,A10]),hR⟩
        ·replace H:=HS.cnd_f A9 H
         try simp -implicitDefEqProofs (maxSteps:=999999) [-selQ_sel,A2,A3,A4,A5,A6,A7,A8,A9]
         have hr:=(HS.some H).symm;subst hr
         exact Hid.mk ⟨(laws_heldNodeS_l0_X a0 (.inr ())).2,Wk.ofk [] hk (by rfl) (by simp -implicitDefEqProofs [laws_heldNodeS_l0_X,A2,A3,A4,A5,A6,A7,A8,A9]) (by simp -implicitDefEqProofs [laws_heldNodeS_l0_X,A2,A3,A4,A5,A6,A7,A8,A9]),hR⟩
       ·replace H:=HS.cnd_f A8 H
        try simp -implicitDefEqProofs (maxSteps:=999999) [-selQ_sel,A2,A3,A4,A5,A6,A7,A8]
        have hr:=(HS.some H).symm;subst hr
        exact Hid.mk ⟨(laws_heldNodeS_l0_X a0 (.inr ())).2,Wk.ofk [] hk (by rfl) (by simp -implicitDefEqProofs [laws_heldNodeS_l0_X,A2,A3,A4,A5,A6,A7,A8]) (by simp -implicitDefEqProofs [laws_heldNodeS_l0_X,A2,A3,A4,A5,A6,A7,A8]),hR⟩
      ·replace H:=HS.cnd_f A7 H
       try simp -implicitDefEqProofs (maxSteps:=999999) [-selQ_sel,A2,A3,A4,A5,A6,A7]
       have hr:=(HS.some H).symm;subst hr
       exact Hid.mk ⟨(laws_heldNodeS_l0_X a0 (.inr ())).2,Wk.ofk [] hk (by rfl) (by simp -implicitDefEqProofs [laws_heldNodeS_l0_X,A2,A3,A4,A5,A6,A7]) (by simp -implicitDefEqProofs [laws_heldNodeS_l0_X,A2,A3,A4,A5,A6,A7]),hR⟩
     ·replace H:=HS.cnd_f A6 H
      try simp -implicitDefEqProofs (maxSteps:=999999) [-selQ_sel,A2,A3,A4,A5,A6]
      have hr:=(HS.some H).symm;subst hr
      exact Hid.mk ⟨(laws_heldNodeS_l0_X a0 (.inr ())).2,Wk.ofk [] hk (by rfl) (by simp -implicitDefEqProofs [laws_heldNodeS_l0_X,A2,A3,A4,A5,A6]) (by simp -implicitDefEqProofs [laws_heldNodeS_l0_X,A2,A3,A4,A5,A6]),hR⟩
    ·replace H:=HS.cnd_f A5 H
     try simp -implicitDefEqProofs (maxSteps:=999999) [-selQ_sel,A2,A3,A4,A5]
     have hr:=(HS.some H).symm;subst hr
     exact Hid.mk ⟨(laws_heldNodeS_l0_X a0 (.inr ())).2,Wk.ofk [] hk (by rfl) (by simp -implicitDefEqProofs [laws_heldNodeS_l0_X,A2,A3,A4,A5]) (by simp -implicitDefEqProofs [laws_heldNodeS_l0_X,A2,A3,A4,A5]),hR⟩
   ·replace H:=HS.cnd_f A4 H
    try simp -implicitDefEqProofs (maxSteps:=999999) [-selQ_sel,A2,A3,A4]
    have hr:=(HS.some H).symm;subst hr
    exact Hid.mk ⟨(laws_heldNodeS_l0_X a0 (.inr ())).2,Wk.ofk [] hk (by rfl) (by simp -implicitDefEqProofs [laws_heldNodeS_l0_X,A2,A3,A4]) (by simp -implicitDefEqProofs [laws_heldNodeS_l0_X,A2,A3,A4]),hR⟩
 ·rcases q with y15 | ⟨⟩
  ·dsimp only at H
   try simp -implicitDefEqProofs (maxSteps:=999999) [-selQ_sel,laws_heldNodeS_l0_X]
   have hr:=(HS.some H).symm;subst hr
   refine Hid.mk ⟨_,Wk.refl _,?_⟩
   try simp -implicitDefEqProofs (maxSteps:=999999) [-selQ_sel]
  ·dsimp only at H
   try simp -implicitDefEqProofs (maxSteps:=999999) [-selQ_sel,laws_heldNodeS_l0_X]
   have hr:=(HS.some H).symm;subst hr
   refine Hid.mk ⟨_,Wk.refl _,?_⟩
   try simp -implicitDefEqProofs (maxSteps:=999999) [-selQ_sel]
theorem impl_PlaceNode_ok0 (hm:Try.prog.follows .mixedOrders = true) (k_impl_copyScene:Sound Try.prog 35 impl_copyScene_x) (k_impl_SceneOk:Sound Try.prog 14 impl_SceneOk_x) (k_impl_Scene_isPlace:Sound Try.prog 36 impl_Scene_isPlace_x) (k_impl_UnderOf:Sound Try.prog 38 impl_UnderOf_x) (k_slices_Contains_int:Sound Try.prog 37 slices_Contains_int_x) (k_impl_NodeAt:Sound Try.prog 13 impl_NodeAt_x) (k_slices_Delete_Node_n:Sound Try.prog 39 slices_Delete_Node_n_x) (k_slices_Insert_Node_n:Sound Try.prog 40 slices_Insert_Node_n_x) (k_impl_DepthOf:Sound Try.prog 42 impl_DepthOf_x) (k_impl_inRange:Sound Try.prog 41 impl_inRange_x):Sound Try.prog 10 impl_PlaceNode_x:=by
 refine xOf_sound fun q r h=>?_
 obtain ⟨a0,a1,a2,a3⟩:=q
 refine fn_ok E0 hm Try.func10 rfl (by decide +kernel) (by rfl) fun Γ hn hk=>?_
 dsimp only [impl_PlaceNode_e,impl_PlaceNode_v]
 replace hn:Γ.n = 82:=hn
 replace hk:Γ.k = 0:=hk
 have H:HS (impl_PlaceNode a0 a1 a2 a3) r:=h
 clear h;unfold impl_PlaceNode at H
 try simp -implicitDefEqProofs at H
 refine Tr.of_vc (cl:=tabC [(35,impl_copyScene_x),(14,impl_SceneOk_x),(36,impl_Scene_isPlace_x),(38,impl_UnderOf_x),(37,slices_Contains_int_x),(13,impl_NodeAt_x),(39,slices_Delete_Node_n_x),(40,slices_Insert_Node_n_x),(42,impl_DepthOf_x),(41,impl_inRange_x)]) (E:=E0) [] (tab_cons k_impl_copyScene (tab_cons k_impl_SceneOk (tab_cons k_impl_Scene_isPlace (tab_cons k_impl_UnderOf (tab_cons k_slices_Contains_int (tab_cons k_impl_NodeAt (tab_cons k_slices_Delete_Node_n (tab_cons k_slices_Insert_Node_n (tab_cons k_impl_DepthOf (tab_cons k_impl_inRange tab_nil)))))))))) hm (by rw [hn];decide +kernel) ?_
 try simp -implicitDefEqProofs +decide (maxSteps:=999999) [-selQ_sel,hokQ_of]
 obtain ⟨v1,A1,H⟩:=HS.bnd H
 try simp -implicitDefEqProofs +decide (maxSteps:=999999) [-selQ_sel,hokQ_of,A1]
 obtain ⟨v2,A2,H⟩:=HS.bnd H
 try simp -implicitDefEqProofs +decide (maxSteps:=999999) [-selQ_sel,hokQ_of,A1,A2]
 refine Hid.brV (fun A3=>?_) (fun A3=>?_)
 ·replace H:=HS.cnd_t A3 H
  try simp -implicitDefEqProofs +decide (maxSteps:=999999) [-selQ_sel,hokQ_of,A1,A2,A3]
  obtain ⟨v3,A4,H⟩:=HS.bnd H
  try simp -implicitDefEqProofs +decide (maxSteps:=999999) [-selQ_sel,hokQ_of,A1,A2,A3,A4]
  refine Hid.brV (fun A5=>?_) (fun A5=>?_)
  ·replace H:=HS.cnd_t A5 H
   try simp -implicitDefEqProofs +decide (maxSteps:=999999) [-selQ_sel,hokQ_of,A1,A2,A3,A4,A5]
   obtain ⟨v4,A6,H⟩:=HS.bnd H
   try simp -implicitDefEqProofs +decide (maxSteps:=999999) [-selQ_sel,hokQ_of,A1,A2,A3,A4,A5,A6]
   obtain ⟨v5,A7,H⟩:=HS.bnd H
   try simp -implicitDefEqProofs +decide (maxSteps:=999999) [-selQ_sel,hokQ_of,A1,A2,A3,A4,A5,A6,A7]
   refine Hid.brV (fun A8=>?_) (fun A8=>?_)
   ·replace H:=HS.cnd_t A8 H
    try simp -implicitDefEqProofs +decide (maxSteps:=999999) [-selQ_sel,hokQ_of,A1,A2,A3,A4,A5,A6,A7,A8]
    have hr:=(HS.some H).symm;subst hr
    refine Hid.mk ⟨⟨[(8,AV.optr 0 0 1),(9,AV.int .i64 6)],[(0,Ob.box [AV.osl 1 0 (List.length v1) (List.length v1)]),(1,Ob.nar 31 (List.map eNode v1) [0,0,0,0,0,0,0,0,0,1,2,0,0,1,0,0,0,0,0,0,0,0,0,0,0,0,0,0,0,1,2])],2⟩,Wk.ofk [1,2] hk (by rfl) (by simp -implicitDefEqProofs [A1,A2,A3,A4,A5,A6,A7,A8]) (by simp -implicitDefEqProofs [A1,A2,A3,A4,A5,A6,A7,A8]),?_⟩
    try simp -implicitDefEqProofs +decide (maxSteps:=999999) [-selQ_sel,hokQ_of,A1,A2,A3,A4,A5,A6,A7,A8]
   ·replace H:=HS.cnd_f A8 H
    try simp -implicitDefEqProofs +decide (maxSteps:=999999) [-selQ_sel,hokQ_of,A1,A2,A3,A4,A5,A6,A7,A8]
    obtain ⟨v6,A9,H⟩:=HS.bnd H
    have F10:=impl_NodeAt_k ((TScene.mk v1).nodes) a1
    simp -implicitDefEqProofs [-impl_NodeAt_k] at F10
    try simp -implicitDefEqProofs +decide (maxSteps:=999999) [-selQ_sel,hokQ_of,A1,A2,A3,A4,A5,A6,A7,A8,A9,F10]
    obtain ⟨v7,A11,H⟩:=HS.bnd H
    have B12:=idx_get A11
    have B13:=idx_lt A11
    have B14:=idx_getE A11
    try simp -implicitDefEqProofs +decide (maxSteps:=999999) [-selQ_sel,hokQ_of,A1,A2,A3,A4,A5,A6,A7,A8,A9,F10,A11,B12,B13,B14]
    obtain ⟨v8,A15,H⟩:=HS.bnd H
    have F16:=slices_Delete_Node_n_ks v6 (IntKind.i64.wrap (v6 + 1)) v7.path.verbs v7.path.points v7.dashes v7.clip.verbs v7.clip.points v7.id v7.parent v7.group v7.mat.a v7.mat.b v7.mat.c v7.mat.d v7.mat.e v7.mat.f v7.even v7.width v7.paint.kind v7.paint.first.r v7.paint.first.g v7.paint.first.b v7.paint.first.a v7.paint.last.r v7.paint.last.g v7.paint.last.b v7.paint.last.a v7.paint.from_.x v7.paint.from_.y v7.paint.to.x v7.paint.to.y v7.mode v7.fade v1 v6 (by assumption)
    simp -implicitDefEqProofs [-slices_Delete_Node_n_k] at F16
    try simp -implicitDefEqProofs +decide (maxSteps:=999999) [-selQ_sel,hokQ_of,A1,A2,A3,A4,A5,A6,A7,A8,A9,F10,A11,B12,B13,B14,A15,F16]
    obtain ⟨v9,A17,H⟩:=HS.bnd H
    have F18:=impl_NodeAt_k ((TScene.mk v8).nodes) a3
    simp -implicitDefEqProofs [-impl_NodeAt_k] at F18
    try simp -implicitDefEqProofs +decide (maxSteps:=999999) [-selQ_sel,hokQ_of,A1,A2,A3,A4,A5,A6,A7,A8,A9,F10,A11,B12,B13,B14,A15,F16,A17,F18]
    obtain ⟨v10,A19,H⟩:=HS.bnd H
    try simp -implicitDefEqProofs +decide (maxSteps:=999999) [-selQ_sel,hokQ_of,A1,A2,A3,A4,A5,A6,A7,A8,A9,F10,A11,B12,B13,B14,A15,F16,A17,F18,A19]
    obtain ⟨v11,A20,H⟩:=HS.bnd H
    have F21:=impl_UnderOf_k ((TScene.mk v10).nodes) a1
    simp -implicitDefEqProofs [-impl_UnderOf_k] at F21
    try simp -implicitDefEqProofs +decide (maxSteps:=999999) [-selQ_sel,hokQ_of,A1,A2,A3,A4,A5,A6,A7,A8,A9,F10,A11,B12,B13,B14,A15,F16,A17,F18,A19,A20,F21]
    obtain ⟨q,A22,H⟩:=HS.bnd H
    refine Hid.mk (Tr.weak (s':=(impl_PlaceNode_l0_S v1 v10 v11) 0) (Wk.ofk [1,3,6,16,2,15] hk (by rfl) (by simp -implicitDefEqProofs [impl_PlaceNode_l0_S,A1,A2,A3,A4,A5,A6,A7,A8,A9,F10,A11,B12,B13,B14,A15,F16,A17,F18,A19,A20,F21]) (by simp -implicitDefEqProofs [impl_PlaceNode_l0_S,A1,A2,A3,A4,A5,A6,A7,A8,A9,F10,A11,B12,B13,B14,A15,F16,A17,F18,A19,A20,F21])) ?_)
    refine wp_loop_of (S:=(impl_PlaceNode_l0_S v1 v10 v11)) (f:=(impl_PlaceNode_l0 v1 v10 v11)) (xt:=(impl_PlaceNode_l0_X v1 v10 v11)) ?_ ?_ A22 ?_
    ·intro q;rcases q with ⟨⟩ | ⟨⟩ <;> simp [impl_PlaceNode_l0_X]
    ·clear H A22 q
     rintro x15 o R hf hR
     have H:HS (impl_PlaceNode_l0 v1 v10 v11 x15) o:=hf
     clear hf;unfold impl_PlaceNode_l0 at H
     try simp -implicitDefEqProofs at H
     refine Tr.of_vc (cl:=tabC [(35,impl_copyScene_x),(14,impl_SceneOk_x),(36,impl_Scene_isPlace_x),(38,impl_UnderOf_x),(37,slices_Contains_int_x),(13,impl_NodeAt_x),(39,slices_Delete_Node_n_x),(40,slices_Insert_Node_n_x),(42,impl_DepthOf_x),(41,impl_inRange_x)]) (E:=E0) [] (tab_cons k_impl_copyScene (tab_cons k_impl_SceneOk (tab_cons k_impl_Scene_isPlace (tab_cons k_impl_UnderOf (tab_cons k_slices_Contains_int (tab_cons k_impl_NodeAt (tab_cons k_slices_Delete_Node_n (tab_cons k_slices_Insert_Node_n (tab_cons k_impl_DepthOf (tab_cons k_impl_inRange tab_nil)))))))))) hm (by rw [hn];decide +kernel) ?_
     try simp -implicitDefEqProofs +decide (maxSteps:=999999) [-selQ_sel,hokQ_of,impl_PlaceNode_l0_S]
     refine Hid.brV (fun A23=>?_) (fun A23=>?_)
     ·replace H:=HS.cnd_t A23 H
      try simp -implicitDefEqProofs +decide (maxSteps:=999999) [-selQ_sel,hokQ_of,A23]
      have hr:=(HS.some H).symm;subst hr
      exact Hid.mk ⟨(impl_PlaceNode_l0_X v1 v10 v11 (.inl ())).2,Wk.ofk [0,2,5] hk (by rfl) (by simp -implicitDefEqProofs [impl_PlaceNode_l0_X,A23]) (by simp -implicitDefEqProofs [impl_PlaceNode_l0_X,A23]),hR⟩
     ·replace H:=HS.cnd_f A23 H
      try simp -implicitDefEqProofs +decide (maxSteps:=999999) [-selQ_sel,hokQ_of,A23]
      obtain ⟨v16,A24,H⟩:=HS.bnd H
      have B25:=idx_get A24
      have B26:=idx_lt A24
      have B27:=idx_getE A24
      try simp -implicitDefEqProofs +decide (maxSteps:=999999) [-selQ_sel,hokQ_of,A23,A24,B25,B26,B27]
      obtain ⟨v17,A28,H⟩:=HS.bnd H
      have F29:=impl_DepthOf_k ((TScene.mk v10).nodes) v16
      simp -implicitDefEqProofs [-impl_DepthOf_k] at F29
      try simp -implicitDefEqProofs +decide (maxSteps:=999999) [-selQ_sel,hokQ_of,A23,A24,B25,B26,B27,A28,F29]
      obtain ⟨v18,A30,H⟩:=HS.bnd H
      try simp -implicitDefEqProofs +decide (maxSteps:=999999) [-selQ_sel,hokQ_of,A23,A24,B25,B26,B27,A28,F29,A30]
      refine Hid.brV (fun A31=>?_) (fun A31=>?_)
      ·replace H:=HS.cnd_t A31 H
       try simp -implicitDefEqProofs +decide (maxSteps:=999999) [-selQ_sel,hokQ_of,A23,A24,B25,B26,B27,A28,F29,A30,A31]
       have hr:=(HS.some H).symm;subst hr
       exact Hid.mk ⟨impl_PlaceNode_l0_S v1 v10 v11 (IntKind.i64.wrap (x15 + 1)),Wk.ofk [0,1,2,3,4,5] hk (by rfl) (by simp -implicitDefEqProofs [impl_PlaceNode_l0_S,A23,A24,B25,B26,B27,A28,F29,A30,A31]) (by simp -implicitDefEqProofs [impl_PlaceNode_l0_S,A23,A24,B25,B26,B27,A28,F29,A30,A31]),hR⟩
      ·replace H:=HS.cnd_f A31 H
       try simp -implicitDefEqProofs +decide (maxSteps:=999999) [-selQ_sel,hokQ_of,A23,A24,B25,B26,B27,A28,F29,A30,A31]
       have hr:=(HS.some H).symm;subst hr
       exact Hid.mk ⟨(impl_PlaceNode_l0_X v1 v10 v11 (.inr ())).2,Wk.ofk [0,4] hk (by rfl) (by simp -implicitDefEqProofs [impl_PlaceNode_l0_X,A23,A24,B25,B26,B27,A28,F29,A30,A31]) (by simp -implicitDefEqProofs [impl_PlaceNode_l0_X,A23,A24,B25,B26,B27,A28,F29,A30,A31]),hR⟩
    ·rcases q with ⟨⟩ | ⟨⟩
     ·dsimp only at H
      try simp -implicitDefEqProofs +decide (maxSteps:=999999) [-selQ_sel,hokQ_of,A1,A2,A3,A4,A5,A6,A7,A8,A9,F10,A11,B12,B13,B14,A15,F16,A17,F18,A19,A20,F21,impl_PlaceNode_l0_X]
      have hr:=(HS.some H).symm;subst hr
      refine Hid.mk ⟨⟨[(8,AV.optr 0 0 1),(9,AV.int .i64 0)],[(0,Ob.box [AV.osl 1 0 (List.length v10) (List.length v10)]),(1,Ob.nar 31 (List.map eNode v10) [0,0,0,0,0,0,0,0,0,1,2,0,0,1,0,0,0,0,0,0,0,0,0,0,0,0,0,0,0,1,2])],2⟩,Wk.ofk [0,2] hk (by rfl) (by simp -implicitDefEqProofs [A1,A2,A3,A4,A5,A6,A7,A8,A9,F10,A11,B12,B13,B14,A15,F16,A17,F18,A19,A20,F21]) (by simp -implicitDefEqProofs [A1,A2,A3,A4,A5,A6,A7,A8,A9,F10,A11,B12,B13,B14,A15,F16,A17,F18,A19,A20,F21]),?_⟩
      try simp -implicitDefEqProofs +decide (maxSteps:=999999) [-selQ_sel,hokQ_of,A1,A2,A3,A4,A5,A6,A7,A8,A9,F10,A11,B12,B13,B14,A15,F16,A17,F18,A19,A20,F21]
     ·dsimp only at H
      try simp -implicitDefEqProofs +decide (maxSteps:=999999) [-selQ_sel,hokQ_of,A1,A2,A3,A4,A5,A6,A7,A8,A9,F10,A11,B12,B13,B14,A15,F16,A17,F18,A19,A20,F21,impl_PlaceNode_l0_X]
      have hr:=(HS.some H).symm;subst hr
      refine Hid.mk ⟨⟨[(8,AV.optr 0 0 1),(9,AV.int .i64 5)],[(0,Ob.box [AV.osl 1 0 (List.length v1) (List.length v1)]),(1,Ob.nar 31 (List.map eNode v1) [0,0,0,0,0,0,0,0,0,1,2,0,0,1,0,0,0,0,0,0,0,0,0,0,0,0,0,0,0,1,2])],2⟩,Wk.ofk [0,1] hk (by rfl) (by simp -implicitDefEqProofs [A1,A2,A3,A4,A5,A6,A7,A8,A9,F10,A11,B12,B13,B14,A15,F16,A17,F18,A19,A20,F21]) (by simp -implicitDefEqProofs [A1,A2,A3,A4,A5,A6,A7,A8,A9,F10,A11,B12,B13,B14,A15,F16,A17,F18,A19,A20,F21]),?_⟩
      try simp -implicitDefEqProofs +decide (maxSteps:=999999) [-selQ_sel,hokQ_of,A1,A2,A3,A4,A5,A6,A7,A8,A9,F10,A11,B12,B13,B14,A15,F16,A17,F18,A19,A20,F21]
  ·replace H:=HS.cnd_f A5 H
   try simp -implicitDefEqProofs +decide (maxSteps:=999999) [-selQ_sel,hokQ_of,A1,A2,A3,A4,A5]
   have hr:=(HS.some H).symm;subst hr
   refine Hid.mk ⟨⟨[(8,AV.optr 0 0 1),(9,AV.int .i64 2)],[(0,Ob.box [AV.osl 1 0 (List.length v1) (List.length v1)]),(1,Ob.nar 31 (List.map eNode v1) [0,0,0,0,0,0,0,0,0,1,2,0,0,1,0,0,0,0,0,0,0,0,0,0,0,0,0,0,0,1,2])],2⟩,Wk.ofk [1,2] hk (by rfl) (by simp -implicitDefEqProofs [A1,A2,A3,A4,A5]) (by simp -implicitDefEqProofs [A1,A2,A3,A4,A5]),?_⟩
   try simp -implicitDefEqProofs +decide (maxSteps:=999999) [-selQ_sel,hokQ_of,A1,A2,A3,A4,A5]
 ·replace H:=HS.cnd_f A3 H
  try simp -implicitDefEqProofs +decide (maxSteps:=999999) [-selQ_sel,hokQ_of,A1,A2,A3]
  have hr:=(HS.some H).symm;subst hr
  refine Hid.mk ⟨⟨[(8,AV.optr 0 0 1),(9,AV.int .i64 1)],[(0,Ob.box [AV.osl 1 0 (List.length v1) (List.length v1)]),(1,Ob.nar 31 (List.map eNode v1) [0,0,0,0,0,0,0,0,0,1,2,0,0,1,0,0,0,0,0,0,0,0,0,0,0,0,0,0,0,1,2])],2⟩,Wk.ofk [1,2] hk (by rfl) (by simp -implicitDefEqProofs [A1,A2,A3]) (by simp -implicitDefEqProofs [A1,A2,A3]),?_⟩
  try simp -implicitDefEqProofs +decide (maxSteps:=999999) [-selQ_sel,hokQ_of,A1,A2,A3]
theorem laws_markNodeS_ok0 (hm:Try.prog.follows .mixedOrders = true) (k_laws_markIntS:Sound Try.prog 72 laws_markIntS_x) (k_laws_markPointS:Sound Try.prog 112 laws_markPointS_x):Sound Try.prog 70 laws_markNodeS_x:=by
 refine xOf_sound fun q r h=>?_
 obtain ⟨a0,a1⟩:=q
 refine fn_ok E0 hm Try.func70 rfl (by decide +kernel) (by rfl) fun Γ hn hk=>?_
 dsimp only [laws_markNodeS_e,laws_markNodeS_v]
 replace hn:Γ.n = 269:=hn
 replace hk:Γ.k = 1:=hk
 have H:HS (laws_markNodeS a0 a1) r:=h
 clear h;unfold laws_markNodeS at H
 try simp -implicitDefEqProofs at H
 refine Tr.of_vc (cl:=tabC [(72,laws_markIntS_x),(112,laws_markPointS_x)]) (E:=E0) [] (tab_cons k_laws_markIntS (tab_cons k_laws_markPointS tab_nil)) hm (by rw [hn];decide +kernel) ?_
 try simp -implicitDefEqProofs (maxSteps:=999999) [-selQ_sel]
 obtain ⟨q,A1,H⟩:=HS.bnd H
 refine Hid.mk (Tr.weak (s':=laws_markNodeS_l0_S (a0,0,a1)) (Wk.ofk [0] hk (by rfl) (by simp -implicitDefEqProofs [laws_markNodeS_l0_S]) (by simp -implicitDefEqProofs [laws_markNodeS_l0_S])) ?_)
 refine wp_loop_of (S:=laws_markNodeS_l0_S) (f:=laws_markNodeS_l0) (xt:=laws_markNodeS_l0_X) ?_ ?_ A1 ?_
 ·intro q;rcases q with ⟨y36,y37⟩ <;> simp [laws_markNodeS_l0_X]
 ·clear H A1 q
  rintro ⟨x17,x18,x19⟩ o R hf hR
  have H:HS (laws_markNodeS_l0 (x17,x18,x19)) o:=hf
  clear hf;unfold laws_markNodeS_l0 at H
  try simp -implicitDefEqProofs at H
  refine Tr.of_vc (cl:=tabC [(72,laws_markIntS_x),(112,laws_markPointS_x)]) (E:=E0) [] (tab_cons k_laws_markIntS (tab_cons k_laws_markPointS tab_nil)) hm (by rw [hn];decide +kernel) ?_
  try simp -implicitDefEqProofs (maxSteps:=999999) [-selQ_sel,laws_markNodeS_l0_S]
  refine Hid.brV (fun A2=>?_) (fun A2=>?_)
  ·replace H:=HS.cnd_t A2 H
   try simp -implicitDefEqProofs (maxSteps:=999999) [-selQ_sel,A2]
   have hr:=(HS.some H).symm;subst hr
   exact Hid.mk ⟨(laws_markNodeS_l0_X (x19,x17)).2,Wk.ofk [0] hk (by rfl) (by simp -implicitDefEqProofs [laws_markNodeS_l0_X,A2]) (by simp -implicitDefEqProofs [laws_markNodeS_l0_X,A2]),hR⟩
  ·replace H:=HS.cnd_f A2 H
   try simp -implicitDefEqProofs (maxSteps:=999999) [-selQ_sel,A2]
   obtain ⟨v20,A3,H⟩:=HS.bnd H
   have B4:=idx_get A3
   have B5:=idx_lt A3
   have B6:=idx_getE A3
   try simp -implicitDefEqProofs (maxSteps:=999999) [-selQ_sel,A2,A3,B4,B5,B6]
   obtain ⟨⟨w22,w23⟩,A7,H⟩:=HS.bnd H
   dsimp only at H
   have B8:=laws_markIntS_n A7
   try simp -implicitDefEqProofs (maxSteps:=999999) [-selQ_sel,A2,A3,B4,B5,B6,A7,B8]
   obtain ⟨⟨w25,w26⟩,A9,H⟩:=HS.bnd H
   dsimp only at H
   have B10:=laws_markPointS_n A9
   try simp -implicitDefEqProofs (maxSteps:=999999) [-selQ_sel,A2,A3,B4,B5,B6,A7,B8,A9,B10]
   obtain ⟨⟨w28,w29⟩,A11,H⟩:=HS.bnd H
   dsimp only at H
   have B12:=laws_markIntS_n A11
   try simp -implicitDefEqProofs (maxSteps:=999999) [-selQ_sel,A2,A3,B4,B5,B6,A7,B8,A9,B10,A11,B12]
   obtain ⟨⟨w31,w32⟩,A13,H⟩:=HS.bnd H
   dsimp only at H
   have B14:=laws_markIntS_n A13
   try simp -implicitDefEqProofs (maxSteps:=999999) [-selQ_sel,A2,A3,B4,B5,B6,A7,B8,A9,B10,A11,B12,A13,B14]
   obtain ⟨⟨w34,w35⟩,A15,H⟩:=HS.bnd H
   dsimp only at H
   have B16:=laws_markPointS_n A15
   try simp -implicitDefEqProofs (maxSteps:=999999) [-selQ_sel,A2,A3,B4,B5,B6,A7,B8,A9,B10,A11,B12,A13,B14,A15,B16]
   have hr:=(HS.some H).symm;subst hr
   exact Hid.mk ⟨laws_markNodeS_l0_S (w34,(IntKind.i64.wrap (x18 + 1)),(List.set x19 (Int.toNat x18) (TNode.mk x17 (IntKind.i64.wrap (x17 + 1)) (ieq (Int.tmod (IntKind.i64.wrap ((IntKind.i64.wrap (x17 + 1)) + 1)) 3) 0) (TMat.mk (IntKind.i64.wrap ((IntKind.i64.wrap ((IntKind.i64.wrap (x17 + 1)) + 1)) + 1)) (IntKind.i64.wrap ((IntKind.i64.wrap ((IntKind.i64.wrap ((IntKind.i64.wrap (x17 + 1)) + 1)) + 1)) + 1)) (IntKind.i64.wrap ((IntKind.i64.wrap ((IntKind.i64.wrap ((IntKind.i64.wrap ((IntKind.i64.wrap (x17 + 1)) + 1)) + 1)) + 1)) + 1)) (IntKind.i64.wrap ((IntKind.i64.wrap ((IntKind.i64.wrap ((IntKind.i64.wrap ((IntKind.i64.wrap ((IntKind.i64.wrap (x17 + 1)) + 1)) + 1)) + 1)) + 1)) + 1)) (IntKind.i64.wrap ((IntKind.i64.wrap ((IntKind.i64.wrap ((IntKind.i64.wrap ((IntKind.i64.wrap ((IntKind.i64.wrap ((IntKind.i64.wrap (x17 + 1)) + 1)) + 1)) + 1)) + 1)) + 1)) + 1)) (IntKind.i64.wrap ((IntKind.i64.wrap ((IntKind.i64.wrap ((IntKind.i64.wrap ((IntKind.i64.wrap ((IntKind.i64.wrap ((IntKind.i64.wrap ((IntKind.i64.wrap (x17 + 1)) + 1)) + 1)) + 1)) + 1)) + 1)) + 1)) + 1))) (TPath.mk w23 w26) (ieq (Int.tmod w25 3) 0) (IntKind.i64.wrap (w25 + 1)) w29 (TPaint.mk w28 (TColor.mk (IntKind.i64.wrap (w28 + 1)) (IntKind.i64.wrap ((IntKind.i64.wrap (w28 + 1)) + 1)) (IntKind.i64.wrap ((IntKind.i64.wrap ((IntKind.i64.wrap (w28 + 1)) + 1)) + 1)) (IntKind.i64.wrap ((IntKind.i64.wrap ((IntKind.i64.wrap ((IntKind.i64.wrap (w28 + 1)) + 1)) + 1)) + 1))) (TColor.mk (IntKind.i64.wrap ((IntKind.i64.wrap ((IntKind.i64.wrap ((IntKind.i64.wrap ((IntKind.i64.wrap (w28 + 1)) + 1)) + 1)) + 1)) + 1)) (IntKind.i64.wrap ((IntKind.i64.wrap ((IntKind.i64.wrap ((IntKind.i64.wrap ((IntKind.i64.wrap ((IntKind.i64.wrap (w28 + 1)) + 1)) + 1)) + 1)) + 1)) + 1)) (IntKind.i64.wrap ((IntKind.i64.wrap ((IntKind.i64.wrap ((IntKind.i64.wrap ((IntKind.i64.wrap ((IntKind.i64.wrap ((IntKind.i64.wrap (w28 + 1)) + 1)) + 1)) + 1)) + 1)) + 1)) + 1)) (IntKind.i64.wrap ((IntKind.i64.wrap ((IntKind.i64.wrap ((IntKind.i64.wrap ((IntKind.i64.wrap ((IntKind.i64.wrap ((IntKind.i64.wrap ((IntKind.i64.wrap (w28 + 1)) + 1)) + 1)) + 1)) + 1)) + 1)) + 1)) + 1))) (TPoint.mk (IntKind.i64.wrap ((IntKind.i64.wrap ((IntKind.i64.wrap ((IntKind.i64.wrap ((IntKind.i64.wrap ((IntKind.i64.wrap ((IntKind.i64.wrap ((IntKind.i64.wrap ((IntKind.i64.wrap (w28 + 1)) + 1)) + 1)) + 1)) + 1)) + 1)) + 1)) + 1)) + 1)) (IntKind.i64.wrap ((IntKind.i64.wrap ((IntKind.i64.wrap ((IntKind.i64.wrap ((IntKind.i64.wrap ((IntKind.i64.wrap ((IntKind.i64.wrap ((IntKind.i64.wrap ((IntKind.i64.wrap ((IntKind.i64.wrap (w28 + 1)) + 1)) + 1)) + 1)) + 1)) + 1)) + 1)) + 1)) + 1)) + 1))) (TPoint.mk (IntKind.i64.wrap ((IntKind.i64.wrap ((IntKind.i64.wrap ((IntKind.i64.wrap ((IntKind.i64.wrap ((IntKind.i64.wrap ((IntKind.i64.wrap ((IntKind.i64.wrap ((IntKind.i64.wrap ((IntKind.i64.wrap ((IntKind.i64.wrap (w28 + 1)) + 1)) + 1)) + 1)) + 1)) + 1)) + 1)) + 1)) + 1)) + 1)) + 1)) (IntKind.i64.wrap ((IntKind.i64.wrap ((IntKind.i64.wrap ((IntKind.i64.wrap ((IntKind.i64.wrap ((IntKind.i64.wrap ((IntKind.i64.wrap ((IntKind.i64.wrap ((IntKind.i64.wrap ((IntKind.i64.wrap ((IntKind.i64.wrap ((IntKind.i64.wrap (w28 + 1)) + 1)) + 1)) + 1)) + 1)) + 1)) + 1)) + 1)) + 1)) + 1)) + 1)) + 1)))) (IntKind.i64.wrap ((IntKind.i64.wrap ((IntKind.i64.wrap ((IntKind.i64.wrap ((IntKind.i64.wrap ((IntKind.i64.wrap ((IntKind.i64.wrap ((IntKind.i64.wrap ((IntKind.i64.wrap ((IntKind.i64.wrap ((IntKind.i64.wrap ((IntKind.i64.wrap ((IntKind.i64.wrap (w28 + 1)) + 1)) + 1)) + 1)) + 1)) + 1)) + 1)) + 1)) + 1)) + 1)) + 1)) + 1)) + 1)) (IntKind.i64.wrap ((IntKind.i64.wrap ((IntKind.i64.wrap ((IntKind.i64.wrap ((IntKind.i64.wrap ((IntKind.i64.wrap ((IntKind.i64.wrap ((IntKind.i64.wrap ((IntKind.i64.wrap ((IntKind.i64.wrap ((IntKind.i64.wrap ((IntKind.i64.wrap ((IntKind.i64.wrap ((IntKind.i64.wrap (w28 + 1)) + 1)) + 1)) + 1)) + 1)) + 1)) + 1)) + 1)) + 1)) + 1)) + 1)) + 1)) + 1)) + 1)) (TPath.mk w32 w35)))),Wk.trans (Wk.abs (id:=0) (j:=1) (js:=[2,3,4,5]) (by rfl) (by rfl) (by decide) (by simp -implicitDefEqProofs [laws_markNodeS_l0_S,A2,A3,B4,B5,B6,A7,B8,A9,B10,A11,B12,A13,B14,A15,B16]) (by rfl) (by simp -implicitDefEqProofs [laws_markNodeS_l0_S,A2,A3,B4,B5,B6,A7,B8,A9,B10,A11,B12,A13,B14,A15,B16]) (by simp -implicitDefEqProofs [laws_markNodeS_l0_S,A2,A3,B4,B5,B6,A7,B8,A9,B10,A11,B12,A13,B14,A15,B16])) (Wk.trans (Wk.abs (id:=0) (j:=2) (js:=[3,4,5]) (by rfl) (by rfl) (by decide) (by simp -implicitDefEqProofs [laws_markNodeS_l0_S,A2,A3,B4,B5,B6,A7,B8,A9,B10,A11,B12,A13,B14,A15,B16]) (by rfl) (by simp -implicitDefEqProofs [laws_markNodeS_l0_S,A2,A3,B4,B5,B6,A7,B8,A9,B10,A11,B12,A13,B14,A15,B16]) (by simp -implicitDefEqProofs [laws_markNodeS_l0_S,A2,A3,B4,B5,B6,A7,B8,A9,B10,A11,B12,A13,B14,A15,B16])) (Wk.trans (Wk.abs (id:=0) (j:=3) (js:=[4,5]) (by rfl) (by rfl) (by decide) (by simp -implicitDefEqProofs [laws_markNodeS_l0_S,A2,A3,B4,B5,B6,A7,B8,A9,B10,A11,B12,A13,B14,A15,B16]) (by rfl) (by simp -implicitDefEqProofs [laws_markNodeS_l0_S,A2,A3,B4,B5,B6,A7,B8,A9,B10,A11,B12,A13,B14,A15,B16]) (by simp -implicitDefEqProofs [laws_markNodeS_l0_S,A2,A3,B4,B5,B6,A7,B8,A9,B10,A11,B12,A13,B14,A15,B16])) (Wk.trans (Wk.abs (id:=0) (j:=4) (js:=[5]) (by rfl) (by rfl) (by decide) (by simp -implicitDefEqProofs [laws_markNodeS_l0_S,A2,A3,B4,B5,B6,A7,B8,A9,B10,A11,B12,A13,B14,A15,B16]) (by rfl) (by simp -implicitDefEqProofs [laws_markNodeS_l0_S,A2,A3,B4,B5,B6,A7,B8,A9,B10,A11,B12,A13,B14,A15,B16]) (by simp -implicitDefEqProofs [laws_markNodeS_l0_S,A2,A3,B4,B5,B6,A7,B8,A9,B10,A11,B12,A13,B14,A15,B16])) (Wk.trans (Wk.abs (id:=0) (j:=5) (js:=[]) (by rfl) (by rfl) (by decide) (by simp -implicitDefEqProofs [laws_markNodeS_l0_S,A2,A3,B4,B5,B6,A7,B8,A9,B10,A11,B12,A13,B14,A15,B16]) (by rfl) (by simp -implicitDefEqProofs [laws_markNodeS_l0_S,A2,A3,B4,B5,B6,A7,B8,A9,B10,A11,B12,A13,B14,A15,B16]) (by simp -implicitDefEqProofs [laws_markNodeS_l0_S,A2,A3,B4,B5,B6,A7,B8,A9,B10,A11,B12,A13,B14,A15,B16])) (Wk.ofk [0] hk (by rfl) (by simp -implicitDefEqProofs [laws_markNodeS_l0_S,A2,A3,B4,B5,B6,A7,B8,A9,B10,A11,B12,A13,B14,A15,B16]) (by simp -implicitDefEqProofs [laws_markNodeS_l0_S,A2,A3,B4,B5,B6,A7,B8,A9,B10,A11,B12,A13,B14,A15,B16])))))),hR⟩
 ·obtain ⟨y36,y37⟩:=q
  try dsimp only at H
  try simp -implicitDefEqProofs (maxSteps:=999999) [-selQ_sel,laws_markNodeS_l0_X]
  have hr:=(HS.some H).symm;subst hr
  refine Hid.mk ⟨_,Wk.refl _,?_⟩
  try simp -implicitDefEqProofs (maxSteps:=999999) [-selQ_sel]
theorem spec_SceneOk_ok0 (hm:Try.prog.follows .mixedOrders = true) (k_spec_NodeOk:Sound Try.prog 57 spec_NodeOk_x) (k_spec_NodeAt:Sound Try.prog 45 spec_NodeAt_x) (k_spec_DepthOf:Sound Try.prog 58 spec_DepthOf_x) (k_spec_l01In:Sound Try.prog 87 spec_l01In_x):Sound Try.prog 44 spec_SceneOk_x:=by
 refine xOf_sound fun q r h=>?_
 revert h;revert r;revert q;intro a0 r h
 refine fn_ok E0 hm Try.func44 rfl (by decide +kernel) (by rfl) fun Γ hn hk=>?_
 dsimp only [spec_SceneOk_e,spec_SceneOk_v]
 replace hn:Γ.n = 61:=hn
 replace hk:Γ.k = 0:=hk
 have H:HS (spec_SceneOk a0) r:=h
 clear h;unfold spec_SceneOk at H
 try simp -implicitDefEqProofs at H
 refine Tr.of_vc (cl:=tabC [(57,spec_NodeOk_x),(45,spec_NodeAt_x),(58,spec_DepthOf_x),(87,spec_l01In_x)]) (E:=E0) [] (tab_cons k_spec_NodeOk (tab_cons k_spec_NodeAt (tab_cons k_spec_DepthOf (tab_cons k_spec_l01In tab_nil)))) hm (by rw [hn];decide +kernel) ?_
 try simp -implicitDefEqProofs (maxSteps:=999999) [-selQ_sel]
 refine Hid.brV (fun A1=>?_) (fun A1=>?_)
 ·replace H:=HS.cnd_t A1 H
  try simp -implicitDefEqProofs (maxSteps:=999999) [-selQ_sel,A1]
  obtain ⟨q,A2,H⟩:=HS.bnd H
  refine Hid.mk (Tr.weak (s':=(spec_SceneOk_l0_S a0) 0) (Wk.ofk [0] hk (by rfl) (by simp -implicitDefEqProofs [spec_SceneOk_l0_S,A1]) (by simp -implicitDefEqProofs [spec_SceneOk_l0_S,A1])) ?_)
  refine wp_loop_of (S:=(spec_SceneOk_l0_S a0)) (f:=(spec_SceneOk_l0 a0)) (xt:=(spec_SceneOk_l0_X a0)) ?_ ?_ A2 ?_
  ·intro q;rcases q with ⟨⟩ | ⟨⟩ <;> simp [spec_SceneOk_l0_X]
  ·clear H A2 q
   rintro x8 o R hf hR
   have H:HS (spec_SceneOk_l0 a0 x8) o:=hf
   clear hf;unfold spec_SceneOk_l0 at H
   try simp -implicitDefEqProofs at H
   refine Tr.of_vc (cl:=tabC [(57,spec_NodeOk_x),(45,spec_NodeAt_x),(58,spec_DepthOf_x),(87,spec_l01In_x)]) (E:=E0) [] (tab_cons k_spec_NodeOk (tab_cons k_spec_NodeAt (tab_cons k_spec_DepthOf (tab_cons k_spec_l01In tab_nil)))) hm (by rw [hn];decide +kernel) ?_
   try simp -implicitDefEqProofs (maxSteps:=999999) [-selQ_sel,spec_SceneOk_l0_S]
   refine Hid.brV (fun A3=>?_) (fun A3=>?_)
   ·replace H:=HS.cnd_t A3 H
    try simp -implicitDefEqProofs (maxSteps:=999999) [-selQ_sel,A3]
    have hr:=(HS.some H).symm;subst hr
    exact Hid.mk ⟨(spec_SceneOk_l0_X a0 (.inl ())).2,Wk.ofk [] hk (by rfl) (by simp -implicitDefEqProofs [spec_SceneOk_l0_X,A3]) (by simp -implicitDefEqProofs [spec_SceneOk_l0_X,A3]),hR⟩
   ·replace H:=HS.cnd_f A3 H
    try simp -implicitDefEqProofs (maxSteps:=999999) [-selQ_sel,A3]
    obtain ⟨v9,A4,H⟩:=HS.bnd H
    try simp -implicitDefEqProofs (maxSteps:=999999) [-selQ_sel,A3,A4]
    obtain ⟨v10,A5,H⟩:=HS.bnd H
    try simp -implicitDefEqProofs (maxSteps:=999999) [-selQ_sel,A3,A4,A5]
    refine Hid.selQ (fun A6=>?_) (fun A6=>?_)
    ·replace H:=HS.cnd_t A6 H
     try simp -implicitDefEqProofs (maxSteps:=999999) [-selQ_sel,A3,A4,A5,A6]
     obtain ⟨v11,A7,H⟩:=HS.bnd H
     try simp -implicitDefEqProofs (maxSteps:=999999) [-selQ_sel,A3,A4,A5,A6,A7]
     refine Hid.selQ (fun A8=>?_) (fun A8=>?_)
     ·replace H:=HS.cnd_t A8 H
      try simp -implicitDefEqProofs (maxSteps:=999999) [-selQ_sel,A3,A4,A5,A6,A7,A8]
      obtain ⟨v12,A9,H⟩:=HS.bnd H
      try simp -implicitDefEqProofs (maxSteps:=999999) [-selQ_sel,A3,A4,A5,A6,A7,A8,A9]
      obtain ⟨v13,A10,H⟩:=HS.bnd H
      try simp -implicitDefEqProofs (maxSteps:=999999) [-selQ_sel,A3,A4,A5,A6,A7,A8,A9,A10]
      refine Hid.brV (fun A11=>?_) (fun A11=>?_)
      ·replace H:=HS.cnd_t A11 H
       try simp -implicitDefEqProofs (maxSteps:=999999) [-selQ_sel,A3,A4,A5,A6,A7,A8,A9,A10,A11]
       obtain ⟨v14,A12,H⟩:=HS.bnd H
       try simp -implicitDefEqProofs (maxSteps:=999999) [-selQ_sel,A3,A4,A5,A6,A7,A8,A9,A10,A11,A12]
       refine Hid.selQ (fun A13=>?_) (fun A13=>?_)
       ·replace H:=HS.cnd_t A13 H
        try simp -implicitDefEqProofs (maxSteps:=999999) [-selQ_sel,A3,A4,A5,A6,A7,A8,A9,A10,A11,A12,A13]
        have hr:=(HS.some H).symm;subst hr
        exact Hid.mk ⟨spec_SceneOk_l0_S a0 (IntKind.i64.wrap (x8 + 1)),Wk.ofk [0] hk (by rfl) (by simp -implicitDefEqProofs [spec_SceneOk_l0_S,A3,A4,A5,A6,A7,A8,A9,A10,A11,A12,A13]) (by simp -implicitDefEqProofs [spec_SceneOk_l0_S,A3,A4,A5,A6,A7,A8,A9,A10,A11,A12,A13]),hR⟩
       ·replace H:=HS.cnd_f A13 H
        try simp -implicitDefEqProofs (maxSteps:=999999) [-selQ_sel,A3,A4,A5,A6,A7,A8,A9,A10,A11,A12,A13]
        refine Hid.selQ (fun A14=>?_) (fun A14=>?_)
        ·replace H:=HS.cnd_t A14 H
         try simp -implicitDefEqProofs (maxSteps:=999999) [-selQ_sel,A3,A4,A5,A6,A7,A8,A9,A10,A11,A12,A13,A14]
         obtain ⟨v15,A15,H⟩:=HS.bnd H
         try simp -implicitDefEqProofs (maxSteps:=999999) [-selQ_sel,A3,A4,A5,A6,A7,A8,A9,A10,A11,A12,A13,A14,A15]
         refine Hid.brV (fun A16=>?_) (fun A16=>?_)
         ·replace H:=HS.cnd_t A16 H
          try simp -implicitDefEqProofs (maxSteps:=999999) [-selQ_sel,A3,A4,A5,A6,A7,A8,A9,A10,A11,A12,A13,A14,A15,A16]
          have hr:=(HS.some H).symm;subst hr
          exact Hid.mk ⟨spec_SceneOk_l0_S a0 (IntKind.i64.wrap (x8 + 1)),Wk.ofk [0] hk (by rfl) (by simp -implicitDefEqProofs [spec_SceneOk_l0_S,A3,A4,A5,A6,A7,A8,A9,A10,A11,A12,A13,A14,A15,A16]) (by simp -implicitDefEqProofs [spec_SceneOk_l0_S,A3,A4,A5,A6,A7,A8,A9,A10,A11,A12,A13,A14,A15,A16]),hR⟩
         ·replace H:=HS.cnd_f A16 H
          try simp -implicitDefEqProofs (maxSteps:=999999) [-selQ_sel,A3,A4,A5,A6,A7,A8,A9,A10,A11,A12,A13,A14,A15,A16]
          have hr:=(HS.some H).symm;subst hr
          exact Hid.mk ⟨(spec_SceneOk_l0_X a0 (.inr ())).2,Wk.ofk [] hk (by rfl) (by simp -implicitDefEqProofs [spec_SceneOk_l0_X,A3,A4,A5,A6,A7,A8,A9,A10,A11,A12,A13,A14,A15,A16]) (by simp -implicitDefEqProofs [spec_SceneOk_l0_X,A3,A4,A5,A6,A7,A8,A9,A10,A11,A12,A13,A14,A15,A16]),hR⟩
        ·replace H:=HS.cnd_f A14 H
         try simp -implicitDefEqProofs (maxSteps:=999999) [-selQ_sel,A3,A4,A5,A6,A7,A8,A9,A10,A11,A12,A13,A14]
         have hr:=(HS.some H).symm;subst hr
         exact Hid.mk ⟨(spec_SceneOk_l0_X a0 (.inr ())).2,Wk.ofk [] hk (by rfl) (by simp -implicitDefEqProofs [spec_SceneOk_l0_X,A3,A4,A5,A6,A7,A8,A9,A10,A11,A12,A13,A14]) (by simp -implicitDefEqProofs [spec_SceneOk_l0_X,A3,A4,A5,A6,A7,A8,A9,A10,A11,A12,A13,A14]),hR⟩
      ·replace H:=HS.cnd_f A11 H
       try simp -implicitDefEqProofs (maxSteps:=999999) [-selQ_sel,A3,A4,A5,A6,A7,A8,A9,A10,A11]
       have hr:=(HS.some H).symm;subst hr
       exact Hid.mk ⟨(spec_SceneOk_l0_X a0 (.inr ())).2,Wk.ofk [] hk (by rfl) (by simp -implicitDefEqProofs [spec_SceneOk_l0_X,A3,A4,A5,A6,A7,A8,A9,A10,A11]) (by simp -implicitDefEqProofs [spec_SceneOk_l0_X,A3,A4,A5,A6,A7,A8,A9,A10,A11]),hR⟩
     ·replace H:=HS.cnd_f A8 H
      try simp -implicitDefEqProofs (maxSteps:=999999) [-selQ_sel,A3,A4,A5,A6,A7,A8]
      have hr:=(HS.some H).symm;subst hr
      exact Hid.mk ⟨(spec_SceneOk_l0_X a0 (.inr ())).2,Wk.ofk [] hk (by rfl) (by simp -implicitDefEqProofs [spec_SceneOk_l0_X,A3,A4,A5,A6,A7,A8]) (by simp -implicitDefEqProofs [spec_SceneOk_l0_X,A3,A4,A5,A6,A7,A8]),hR⟩
    ·replace H:=HS.cnd_f A6 H
     try simp -implicitDefEqProofs (maxSteps:=999999) [-selQ_sel,A3,A4,A5,A6]
     have hr:=(HS.some H).symm;subst hr
     exact Hid.mk ⟨(spec_SceneOk_l0_X a0 (.inr ())).2,Wk.ofk [] hk (by rfl) (by simp -implicitDefEqProofs [spec_SceneOk_l0_X,A3,A4,A5,A6]) (by simp -implicitDefEqProofs [spec_SceneOk_l0_X,A3,A4,A5,A6]),hR⟩
  ·rcases q with ⟨⟩ | ⟨⟩
   ·dsimp only at H
    try simp -implicitDefEqProofs (maxSteps:=999999) [-selQ_sel,A1,spec_SceneOk_l0_X]
    have hr:=(HS.some H).symm;subst hr
    refine Hid.mk ⟨_,Wk.refl _,?_⟩
    try simp -implicitDefEqProofs (maxSteps:=999999) [-selQ_sel,A1]
   ·dsimp only at H
    try simp -implicitDefEqProofs (maxSteps:=999999) [-selQ_sel,A1,spec_SceneOk_l0_X]
    have hr:=(HS.some H).symm;subst hr
    refine Hid.mk ⟨_,Wk.refl _,?_⟩
    try simp -implicitDefEqProofs (maxSteps:=999999) [-selQ_sel,A1]
 ·replace H:=HS.cnd_f A1 H
  try simp -implicitDefEqProofs (maxSteps:=999999) [-selQ_sel,A1]
  have hr:=(HS.some H).symm;subst hr
  refine Hid.mk ⟨_,Wk.refl _,?_⟩
  try simp -implicitDefEqProofs (maxSteps:=999999) [-selQ_sel,A1]
theorem slices_Delete_NodeR_ok0 (hm:Try.prog.follows .mixedOrders = true):Sound Try.prog 39 slices_Delete_NodeR_x:=by
 refine xOf_sound fun q r h=>?_
 obtain ⟨a0,a1,a2,a3⟩:=q
 refine fn_ok E0 hm Try.func39 rfl (by decide +kernel) (by rfl) fun Γ hn hk=>?_
 dsimp only [slices_Delete_NodeR_e,slices_Delete_NodeR_v]
 replace hn:Γ.n = 33:=hn
 replace hk:Γ.k = 1:=hk
 have H:HS (slices_Delete_NodeR a0 a1 a2 a3) r:=h
 clear h;unfold slices_Delete_NodeR at H
 try simp -implicitDefEqProofs at H
 refine Tr.of_vc (cl:=tabC []) (E:=E0) [] tab_nil hm (by rw [hn];decide +kernel) ?_
 try simp -implicitDefEqProofs +decide (maxSteps:=999999) [-selQ_sel,hokQ_of,-appO_some,appO_part,appO_whole]
 obtain ⟨A1,H⟩:=HS.chkP H
 try simp -implicitDefEqProofs +decide (maxSteps:=999999) [-selQ_sel,hokQ_of,-appO_some,appO_part,appO_whole,A1]
 obtain ⟨A2,H⟩:=HS.chkP H
 try simp -implicitDefEqProofs +decide (maxSteps:=999999) [-selQ_sel,hokQ_of,-appO_some,appO_part,appO_whole,A1,A2]
 refine Hid.brV (fun A3=>?_) (fun A3=>?_)
 ·replace H:=HS.cnd_t A3 H
  try simp -implicitDefEqProofs +decide (maxSteps:=999999) [-selQ_sel,hokQ_of,-appO_some,appO_part,appO_whole,A1,A2,A3]
  have hr:=(HS.some H).symm;subst hr
  refine Hid.mk ⟨⟨[(6,AV.osl 0 0 a0 (List.length a3))],[(0,Ob.arr 31 (List.map eNodeR a3) false)],1⟩,Wk.ofk [0] hk (by rfl) (by simp -implicitDefEqProofs [A1,A2,A3]) (by simp -implicitDefEqProofs [A1,A2,A3]),?_⟩
  try simp -implicitDefEqProofs +decide (maxSteps:=999999) [-selQ_sel,hokQ_of,-appO_some,appO_part,appO_whole,A1,A2,A3]
 ·replace H:=HS.cnd_f A3 H
  try simp -implicitDefEqProofs +decide (maxSteps:=999999) [-selQ_sel,hokQ_of,-appO_some,appO_part,appO_whole,A1,A2,A3]
  obtain ⟨v1,A4,H⟩:=HS.bnd H
  have C5:=(slc_spec A4).1
  have C6:=slc_fit A4
  have C7:=slc_map (e:=eNodeR) A4
  have C8:=(slc_spec A4).2.1
  simp -implicitDefEqProofs at C5 C6 C7 C8
  try simp only [C8] at C6 C7
  try simp -implicitDefEqProofs +decide (maxSteps:=999999) [-selQ_sel,hokQ_of,-appO_some,appO_part,appO_whole,A1,A2,A3,A4,C5,C6,C7,C8]
  obtain ⟨v2,A9,H⟩:=HS.bnd H
  have C10:=(slc_spec A9).1
  have C11:=slc_fit A9
  have C12:=slc_map (e:=eNodeR) A9
  have C13:=(slc_spec A9).2.1
  simp -implicitDefEqProofs at C10 C11 C12 C13
  try simp only [C13] at C11 C12
  try simp -implicitDefEqProofs +decide (maxSteps:=999999) [-selQ_sel,hokQ_of,-appO_some,appO_part,appO_whole,A1,A2,A3,A4,C5,C6,C7,C8,A9,C10,C11,C12,C13]
  obtain ⟨A14,H⟩:=HS.chkP H
  try simp -implicitDefEqProofs +decide (maxSteps:=999999) [-selQ_sel,hokQ_of,-appO_some,appO_part,appO_whole,A1,A2,A3,A4,C5,C6,C7,C8,A9,C10,C11,C12,C13,A14]
  obtain ⟨A15,H⟩:=HS.chkP H
  try simp -implicitDefEqProofs +decide (maxSteps:=999999) [-selQ_sel,hokQ_of,-appO_some,appO_part,appO_whole,A1,A2,A3,A4,C5,C6,C7,C8,A9,C10,C11,C12,C13,A14,A15]
  obtain ⟨l3,A16,H⟩:=HS.nam H
  have E17:=congrArg (List.map eNodeR) A16
  have D18:=congrArg List.length A16
  rw [ovr_len (by simp -implicitDefEqProofs [A1,A2,A3,A4,C5,C6,C7,C8,A9,C10,C11,C12,C13,A14,A15])] at D18
  simp -implicitDefEqProofs at E17 D18
  try simp only [D18] at E17
  try simp only [D18] at A15
  try simp only [D18] at C5
  try simp only [D18] at C6
  try simp only [D18] at C7
  try simp only [D18] at C8
  try simp only [D18] at C10
  try simp only [D18] at C11
  try simp only [D18] at C12
  try simp only [D18] at C13
  try simp -implicitDefEqProofs +decide (maxSteps:=999999) [-selQ_sel,hokQ_of,-appO_some,appO_part,appO_whole,A1,A2,A3,A4,C5,C6,C7,C8,A9,C10,C11,C12,C13,A14,A15,E17,D18]
  obtain ⟨v4,A19,H⟩:=HS.bnd H
  have C20:=(slc_spec A19).1
  have C21:=slc_fit A19
  have C22:=slc_map (e:=eNodeR) A19
  have C23:=(slc_spec A19).2.1
  simp -implicitDefEqProofs at C20 C21 C22 C23
  try simp only [C23] at C21 C22
  have C24:=slc_hi A19
  try simp -implicitDefEqProofs +decide (maxSteps:=999999) [-selQ_sel,hokQ_of,-appO_some,appO_part,appO_whole,A1,A2,A3,A4,C5,C6,C7,C8,A9,C10,C11,C12,C13,A14,A15,E17,D18,A19,C20,C21,C22,C23,C24]
  obtain ⟨v5,A25,H⟩:=HS.bnd H
  have C26:=(slc_spec A25).1
  have C27:=slc_fit A25
  have C28:=slc_map (e:=eNodeR) A25
  have C29:=(slc_spec A25).2.1
  simp -implicitDefEqProofs at C26 C27 C28 C29
  try simp only [C29] at C27 C28
  try simp -implicitDefEqProofs +decide (maxSteps:=999999) [-selQ_sel,hokQ_of,-appO_some,appO_part,appO_whole,A1,A2,A3,A4,C5,C6,C7,C8,A9,C10,C11,C12,C13,A14,A15,E17,D18,A19,C20,C21,C22,C23,C24,A25,C26,C27,C28,C29]
  obtain ⟨l6,A30,H⟩:=HS.nam H
  have E31:=congrArg (List.map eNodeR) A30
  have D32:=congrArg List.length A30
  rw [clrL_len (by simp -implicitDefEqProofs [A1,A2,A3,A4,C5,C6,C7,C8,A9,C10,C11,C12,C13,A14,A15,A19,C20,C21,C22,C23,C24,A25,C26,C27,C28,C29])] at D32
  simp -implicitDefEqProofs at E31 D32
  try simp only [D32] at E31
  try simp only [D32] at C29
  try simp only [D32] at C5
  try simp only [D32] at C6
  try simp only [D32] at C7
  try simp only [D32] at C8
  try simp only [D32] at C10
  try simp only [D32] at C11
  try simp only [D32] at C12
  try simp only [D32] at C13
  try simp only [D32] at C20
  try simp only [D32] at C21
  try simp only [D32] at C22
  try simp only [D32] at C23
  try simp only [D32] at C24
  try simp only [D32] at C26
  try simp only [D32] at C27
  try simp only [D32] at C28
  try simp -implicitDefEqProofs +decide (maxSteps:=999999) [-selQ_sel,hokQ_of,-appO_some,appO_part,appO_whole,A1,A2,A3,A4,C5,C6,C7,C8,A9,C10,C11,C12,C13,A14,A15,E17,D18,A19,C20,C21,C22,C23,C24,A25,C26,C27,C28,C29,E31,D32]
  have hr:=(HS.some H).symm;subst hr
  refine Hid.mk ⟨⟨[(6,AV.osl 0 0 (List.length v4) (List.length l6))],[(0,Ob.arr 31 (List.map eNodeR l6) false)],1⟩,Wk.ofk [0] hk (by rfl) (by simp -implicitDefEqProofs [A1,A2,A3,A4,C5,C6,C7,C8,A9,C10,C11,C12,C13,A14,A15,E17,D18,A19,C20,C21,C22,C23,C24,A25,C26,C27,C28,C29,E31,D32]) (by simp -implicitDefEqProofs [A1,A2,A3,A4,C5,C6,C7,C8,A9,C10,C11,C12,C13,A14,A15,E17,D18,A19,C20,C21,C22,C23,C24,A25,C26,C27,C28,C29,E31,D32]),?_⟩
  try simp -implicitDefEqProofs +decide (maxSteps:=999999) [-selQ_sel,hokQ_of,-appO_some,appO_part,appO_whole,A1,A2,A3,A4,C5,C6,C7,C8,A9,C10,C11,C12,C13,A14,A15,E17,D18,A19,C20,C21,C22,C23,C24,A25,C26,C27,C28,C29,E31,D32]
theorem laws_toNodeS_ok0 (hm:Try.prog.follows .mixedOrders = true) (k_laws_toNode:Sound Try.prog 20 laws_toNode_x):Sound Try.prog 59 laws_toNodeS_x:=by
 refine xOf_sound fun q r h=>?_
 revert h;revert r;revert q;intro a0 r h
 refine fn_ok E0 hm Try.func59 rfl (by decide +kernel) (by rfl) fun Γ hn hk=>?_
 dsimp only [laws_toNodeS_e,laws_toNodeS_v]
 replace hn:Γ.n = 23:=hn
 replace hk:Γ.k = 0:=hk
 have H:HS (laws_toNodeS a0) r:=h
 clear h;unfold laws_toNodeS at H
 try simp -implicitDefEqProofs at H
 refine Tr.of_vc (cl:=tabC [(20,laws_toNode_x)]) (E:=E0) [] (tab_cons k_laws_toNode tab_nil) hm (by rw [hn];decide +kernel) ?_
 try simp -implicitDefEqProofs (maxSteps:=999999) [-selQ_sel]
 obtain ⟨A1,H⟩:=HS.chkP H
 try simp -implicitDefEqProofs (maxSteps:=999999) [-selQ_sel,A1]
 obtain ⟨l1,A2,H⟩:=HS.nam H
 have E3:=congrArg (List.map eNode) A2
 have D4:=congrArg List.length A2
 simp -implicitDefEqProofs at E3 D4
 try simp only [D4] at E3
 try simp only [D4] at A1
 try simp -implicitDefEqProofs (maxSteps:=999999) [-selQ_sel,A1,E3,D4]
 obtain ⟨q,A5,H⟩:=HS.bnd H
 refine Hid.mk (Tr.weak (s':=(laws_toNodeS_l0_S a0) (0,l1)) (Wk.ofk [0] hk (by rfl) (by simp -implicitDefEqProofs [laws_toNodeS_l0_S,A1,E3,D4]) (by simp -implicitDefEqProofs [laws_toNodeS_l0_S,A1,E3,D4])) ?_)
 refine wp_loop_of (S:=(laws_toNodeS_l0_S a0)) (f:=(laws_toNodeS_l0 a0)) (xt:=(laws_toNodeS_l0_X a0)) ?_ ?_ A5 ?_
 ·intro q;simp [laws_toNodeS_l0_X]
 ·clear H A5 q
  rintro ⟨x19,x20⟩ o R hf hR
  have H:HS (laws_toNodeS_l0 a0 (x19,x20)) o:=hf
  clear hf;unfold laws_toNodeS_l0 at H
  try simp -implicitDefEqProofs at H
  refine Tr.of_vc (cl:=tabC [(20,laws_toNode_x)]) (E:=E0) [] (tab_cons k_laws_toNode tab_nil) hm (by rw [hn];decide +kernel) ?_
  try simp -implicitDefEqProofs (maxSteps:=999999) [-selQ_sel,laws_toNodeS_l0_S]
  refine Hid.brV (fun A6=>?_) (fun A6=>?_)
  ·replace H:=HS.cnd_t A6 H
   try simp -implicitDefEqProofs (maxSteps:=999999) [-selQ_sel,A6]
   have hr:=(HS.some H).symm;subst hr
   exact Hid.mk ⟨(laws_toNodeS_l0_X a0 x20).2,Wk.ofk [0] hk (by rfl) (by simp -implicitDefEqProofs [laws_toNodeS_l0_X,A6]) (by simp -implicitDefEqProofs [laws_toNodeS_l0_X,A6]),hR⟩
  ·replace H:=HS.cnd_f A6 H
   try simp -implicitDefEqProofs (maxSteps:=999999) [-selQ_sel,A6]
   obtain ⟨v21,A7,H⟩:=HS.bnd H
   try simp -implicitDefEqProofs (maxSteps:=999999) [-selQ_sel,A6,A7]
   obtain ⟨⟨w23,w24,w25,w26,w27,w28,w29,w30,w31,w32,w33,w34,w35,w36⟩,A8,H⟩:=HS.bnd H
   dsimp only at H
   try simp -implicitDefEqProofs (maxSteps:=999999) [-selQ_sel,A6,A7,A8]
   obtain ⟨v37,A9,H⟩:=HS.bnd H
   have B10:=idx_get A9
   have B11:=idx_lt A9
   have B12:=idx_getE A9
   try simp -implicitDefEqProofs (maxSteps:=999999) [-selQ_sel,A6,A7,A8,A9,B10,B11,B12]
   have hr:=(HS.some H).symm;subst hr
   exact Hid.mk ⟨laws_toNodeS_l0_S a0 ((IntKind.i64.wrap (x19 + 1)),(List.set x20 (Int.toNat x19) (TNode.mk w23 w24 w25 w26 (TPath.mk w32 w33) w27 w28 w34 w29 w30 w31 (TPath.mk w35 w36)))),Wk.trans (Wk.abs (id:=0) (j:=1) (js:=[2,3,4,5]) (by rfl) (by rfl) (by decide) (by simp -implicitDefEqProofs [laws_toNodeS_l0_S,A6,A7,A8,A9,B10,B11,B12]) (by rfl) (by simp -implicitDefEqProofs [laws_toNodeS_l0_S,A6,A7,A8,A9,B10,B11,B12]) (by simp -implicitDefEqProofs [laws_toNodeS_l0_S,A6,A7,A8,A9,B10,B11,B12])) (Wk.trans (Wk.abs (id:=0) (j:=2) (js:=[3,4,5]) (by rfl) (by rfl) (by decide) (by simp -implicitDefEqProofs [laws_toNodeS_l0_S,A6,A7,A8,A9,B10,B11,B12]) (by rfl) (by simp -implicitDefEqProofs [laws_toNodeS_l0_S,A6,A7,A8,A9,B10,B11,B12]) (by simp -implicitDefEqProofs [laws_toNodeS_l0_S,A6,A7,A8,A9,B10,B11,B12])) (Wk.trans (Wk.abs (id:=0) (j:=3) (js:=[4,5]) (by rfl) (by rfl) (by decide) (by simp -implicitDefEqProofs [laws_toNodeS_l0_S,A6,A7,A8,A9,B10,B11,B12]) (by rfl) (by simp -implicitDefEqProofs [laws_toNodeS_l0_S,A6,A7,A8,A9,B10,B11,B12]) (by simp -implicitDefEqProofs [laws_toNodeS_l0_S,A6,A7,A8,A9,B10,B11,B12])) (Wk.trans (Wk.abs (id:=0) (j:=4) (js:=[5]) (by rfl) (by rfl) (by decide) (by simp -implicitDefEqProofs [laws_toNodeS_l0_S,A6,A7,A8,A9,B10,B11,B12]) (by rfl) (by simp -implicitDefEqProofs [laws_toNodeS_l0_S,A6,A7,A8,A9,B10,B11,B12]) (by simp -implicitDefEqProofs [laws_toNodeS_l0_S,A6,A7,A8,A9,B10,B11,B12])) (Wk.trans (Wk.abs (id:=0) (j:=5) (js:=[]) (by rfl) (by rfl) (by decide) (by simp -implicitDefEqProofs [laws_toNodeS_l0_S,A6,A7,A8,A9,B10,B11,B12]) (by rfl) (by simp -implicitDefEqProofs [laws_toNodeS_l0_S,A6,A7,A8,A9,B10,B11,B12]) (by simp -implicitDefEqProofs [laws_toNodeS_l0_S,A6,A7,A8,A9,B10,B11,B12])) (Wk.ofk [0] hk (by rfl) (by simp -implicitDefEqProofs [laws_toNodeS_l0_S,A6,A7,A8,A9,B10,B11,B12]) (by simp -implicitDefEqProofs [laws_toNodeS_l0_S,A6,A7,A8,A9,B10,B11,B12])))))),hR⟩
 ·revert H A5;revert q;intro y38 A5 H
  try dsimp only at H
  try simp -implicitDefEqProofs (maxSteps:=999999) [-selQ_sel,A1,E3,D4,laws_toNodeS_l0_X]
  have hr:=(HS.some H).symm;subst hr
  refine Hid.mk ⟨⟨[(2,AV.osl 0 0 (List.length y38) (List.length y38))],[(0,Ob.nar 31 (List.map eNode y38) [0,0,0,0,0,0,0,0,0,1,2,0,0,1,0,0,0,0,0,0,0,0,0,0,0,0,0,0,0,1,2])],1⟩,Wk.ofk [0] hk (by rfl) (by simp -implicitDefEqProofs [A1,E3,D4]) (by simp -implicitDefEqProofs [A1,E3,D4]),?_⟩
  try simp -implicitDefEqProofs (maxSteps:=999999) [-selQ_sel,A1,E3,D4]
theorem impl_copyScene_ok0 (hm:Try.prog.follows .mixedOrders = true) (k_impl_copyNode:Sound Try.prog 64 impl_copyNode_x):Sound Try.prog 35 impl_copyScene_x:=by
 refine xOf_sound fun q r h=>?_
 revert h;revert r;revert q;intro a0 r h
 refine fn_ok E0 hm Try.func35 rfl (by decide +kernel) (by rfl) fun Γ hn hk=>?_
 dsimp only [impl_copyScene_e,impl_copyScene_v]
 replace hn:Γ.n = 22:=hn
 replace hk:Γ.k = 0:=hk
 have H:HS (impl_copyScene a0) r:=h
 clear h;unfold impl_copyScene at H
 try simp -implicitDefEqProofs at H
 refine Tr.of_vc (cl:=tabC [(64,impl_copyNode_x)]) (E:=E0) [] (tab_cons k_impl_copyNode tab_nil) hm (by rw [hn];decide +kernel) ?_
 try simp -implicitDefEqProofs +decide (maxSteps:=999999) [-selQ_sel,hokQ_of]
 obtain ⟨q,A1,H⟩:=HS.bnd H
 refine Hid.mk (Tr.weak (s':=(impl_copyScene_l0_S a0) (0,[])) (Wk.ofk [1,2,3] hk (by rfl) (by simp -implicitDefEqProofs [impl_copyScene_l0_S]) (by simp -implicitDefEqProofs [impl_copyScene_l0_S])) ?_)
 refine wp_loop_of (S:=(impl_copyScene_l0_S a0)) (f:=(impl_copyScene_l0 a0)) (xt:=(impl_copyScene_l0_X a0)) ?_ ?_ A1 ?_
 ·intro q;simp [impl_copyScene_l0_X]
 ·clear H A1 q
  rintro ⟨x17,x18⟩ o R hf hR
  have H:HS (impl_copyScene_l0 a0 (x17,x18)) o:=hf
  clear hf;unfold impl_copyScene_l0 at H
  try simp -implicitDefEqProofs at H
  refine Tr.of_vc (cl:=tabC [(64,impl_copyNode_x)]) (E:=E0) [] (tab_cons k_impl_copyNode tab_nil) hm (by rw [hn];decide +kernel) ?_
  try simp -implicitDefEqProofs +decide (maxSteps:=999999) [-selQ_sel,hokQ_of,impl_copyScene_l0_S]
  refine Hid.brV (fun A2=>?_) (fun A2=>?_)
  ·replace H:=HS.cnd_t A2 H
   try simp -implicitDefEqProofs +decide (maxSteps:=999999) [-selQ_sel,hokQ_of,A2]
   have hr:=(HS.some H).symm;subst hr
   exact Hid.mk ⟨(impl_copyScene_l0_X a0 x18).2,Wk.ofk [0,1,2] hk (by rfl) (by simp -implicitDefEqProofs [impl_copyScene_l0_X,A2]) (by simp -implicitDefEqProofs [impl_copyScene_l0_X,A2]),hR⟩
  ·replace H:=HS.cnd_f A2 H
   try simp -implicitDefEqProofs +decide (maxSteps:=999999) [-selQ_sel,hokQ_of,A2]
   obtain ⟨v19,A3,H⟩:=HS.bnd H
   try simp -implicitDefEqProofs +decide (maxSteps:=999999) [-selQ_sel,hokQ_of,A2,A3]
   obtain ⟨⟨w21,w22,w23,w24,w25,w26,w27,w28,w29,w30,w31,w32,w33,w34⟩,A4,H⟩:=HS.bnd H
   dsimp only at H
   try simp -implicitDefEqProofs +decide (maxSteps:=999999) [-selQ_sel,hokQ_of,A2,A3,A4]
   obtain ⟨A5,H⟩:=HS.chkP H
   try simp -implicitDefEqProofs +decide (maxSteps:=999999) [-selQ_sel,hokQ_of,A2,A3,A4,A5]
   have hr:=(HS.some H).symm;subst hr
   exact Hid.mk ⟨impl_copyScene_l0_S a0 ((IntKind.i64.wrap (x17 + 1)),(x18 ++ [(TNode.mk w21 w22 w23 w24 (TPath.mk w30 w31) w25 w26 w32 w27 w28 w29 (TPath.mk w33 w34))])),Wk.trans (Wk.abs (id:=2) (j:=4) (js:=[5,6,7,8]) (by rfl) (by rfl) (by decide) (by simp -implicitDefEqProofs [impl_copyScene_l0_S,A2,A3,A4,A5]) (by rfl) (by simp -implicitDefEqProofs [impl_copyScene_l0_S,A2,A3,A4,A5]) (by simp -implicitDefEqProofs [impl_copyScene_l0_S,A2,A3,A4,A5])) (Wk.trans (Wk.abs (id:=2) (j:=5) (js:=[6,7,8]) (by rfl) (by rfl) (by decide) (by simp -implicitDefEqProofs [impl_copyScene_l0_S,A2,A3,A4,A5]) (by rfl) (by simp -implicitDefEqProofs [impl_copyScene_l0_S,A2,A3,A4,A5]) (by simp -implicitDefEqProofs [impl_copyScene_l0_S,A2,A3,A4,A5])) (Wk.trans (Wk.abs (id:=2) (j:=6) (js:=[7,8]) (by rfl) (by rfl) (by decide) (by simp -implicitDefEqProofs [impl_copyScene_l0_S,A2,A3,A4,A5]) (by rfl) (by simp -implicitDefEqProofs [impl_copyScene_l0_S,A2,A3,A4,A5]) (by simp -implicitDefEqProofs [impl_copyScene_l0_S,A2,A3,A4,A5])) (Wk.trans (Wk.abs (id:=2) (j:=7) (js:=[8]) (by rfl) (by rfl) (by decide) (by simp -implicitDefEqProofs [impl_copyScene_l0_S,A2,A3,A4,A5]) (by rfl) (by simp -implicitDefEqProofs [impl_copyScene_l0_S,A2,A3,A4,A5]) (by simp -implicitDefEqProofs [impl_copyScene_l0_S,A2,A3,A4,A5])) (Wk.trans (Wk.abs (id:=2) (j:=8) (js:=[]) (by rfl) (by rfl) (by decide) (by simp -implicitDefEqProofs [impl_copyScene_l0_S,A2,A3,A4,A5]) (by rfl) (by simp -implicitDefEqProofs [impl_copyScene_l0_S,A2,A3,A4,A5]) (by simp -implicitDefEqProofs [impl_copyScene_l0_S,A2,A3,A4,A5])) (Wk.ofk [0,1,2] hk (by rfl) (by simp -implicitDefEqProofs [impl_copyScene_l0_S,A2,A3,A4,A5]) (by simp -implicitDefEqProofs [impl_copyScene_l0_S,A2,A3,A4,A5])))))),hR⟩
 ·revert H A1;revert q;intro y35 A1 H
  try dsimp only at H
  try simp -implicitDefEqProofs +decide (maxSteps:=999999) [-selQ_sel,hokQ_of,impl_copyScene_l0_X]
  have hr:=(HS.some H).symm;subst hr
  refine Hid.mk ⟨⟨[(2,AV.optr 0 0 1)],[(0,Ob.box [AV.osl 1 0 (List.length y35) (List.length y35)]),(1,Ob.nar 31 (List.map eNode y35) [0,0,0,0,0,0,0,0,0,1,2,0,0,1,0,0,0,0,0,0,0,0,0,0,0,0,0,0,0,1,2])],2⟩,Wk.ofk [0,2] hk (by rfl) (by simp -implicitDefEqProofs []) (by simp -implicitDefEqProofs []),?_⟩
  try simp -implicitDefEqProofs +decide (maxSteps:=999999) [-selQ_sel,hokQ_of]
theorem laws_eqPointS_ok0 (hm:Try.prog.follows .mixedOrders = true) (k_laws_eqPoint:Sound Try.prog 111 laws_eqPoint_x):Sound Try.prog 109 laws_eqPointS_x:=by
 refine xOf_sound fun q r h=>?_
 obtain ⟨a0,a1⟩:=q
 refine fn_ok E0 hm Try.func109 rfl (by decide +kernel) (by rfl) fun Γ hn hk=>?_
 dsimp only [laws_eqPointS_e,laws_eqPointS_v]
 replace hn:Γ.n = 27:=hn
 replace hk:Γ.k = 0:=hk
 have H:HS (laws_eqPointS a0 a1) r:=h
 clear h;unfold laws_eqPointS at H
 try simp -implicitDefEqProofs at H
 refine Tr.of_vc (cl:=tabC [(111,laws_eqPoint_x)]) (E:=E0) [] (tab_cons k_laws_eqPoint tab_nil) hm (by rw [hn];decide +kernel) ?_
 try simp -implicitDefEqProofs +decide (maxSteps:=999999) [-selQ_sel,hokQ_of]
 refine Hid.brV (fun A1=>?_) (fun A1=>?_)
 ·replace H:=HS.cnd_t A1 H
  try simp -implicitDefEqProofs +decide (maxSteps:=999999) [-selQ_sel,hokQ_of,A1]
  obtain ⟨q,A2,H⟩:=HS.bnd H
  refine Hid.mk (Tr.weak (s':=(laws_eqPointS_l0_S a0 a1) 0) (Wk.ofk [] hk (by rfl) (by simp -implicitDefEqProofs [laws_eqPointS_l0_S,A1]) (by simp -implicitDefEqProofs [laws_eqPointS_l0_S,A1])) ?_)
  refine wp_loop_of (S:=(laws_eqPointS_l0_S a0 a1)) (f:=(laws_eqPointS_l0 a0 a1)) (xt:=(laws_eqPointS_l0_X a0 a1)) ?_ ?_ A2 ?_
  ·intro q;rcases q with ⟨⟩ | ⟨⟩ <;> simp [laws_eqPointS_l0_X]
  ·clear H A2 q
   rintro x4 o R hf hR
   have H:HS (laws_eqPointS_l0 a0 a1 x4) o:=hf
   clear hf;unfold laws_eqPointS_l0 at H
   try simp -implicitDefEqProofs at H
   refine Tr.of_vc (cl:=tabC [(111,laws_eqPoint_x)]) (E:=E0) [] (tab_cons k_laws_eqPoint tab_nil) hm (by rw [hn];decide +kernel) ?_
   try simp -implicitDefEqProofs +decide (maxSteps:=999999) [-selQ_sel,hokQ_of,laws_eqPointS_l0_S]
   refine Hid.brV (fun A3=>?_) (fun A3=>?_)
   ·replace H:=HS.cnd_t A3 H
    try simp -implicitDefEqProofs +decide (maxSteps:=999999) [-selQ_sel,hokQ_of,A3]
    have hr:=(HS.some H).symm;subst hr
    exact Hid.mk ⟨(laws_eqPointS_l0_X a0 a1 (.inl ())).2,Wk.ofk [] hk (by rfl) (by simp -implicitDefEqProofs [laws_eqPointS_l0_X,A3]) (by simp -implicitDefEqProofs [laws_eqPointS_l0_X,A3]),hR⟩
   ·replace H:=HS.cnd_f A3 H
    try simp -implicitDefEqProofs +decide (maxSteps:=999999) [-selQ_sel,hokQ_of,A3]
    obtain ⟨v5,A4,H⟩:=HS.bnd H
    try simp -implicitDefEqProofs +decide (maxSteps:=999999) [-selQ_sel,hokQ_of,A3,A4]
    obtain ⟨v6,A5,H⟩:=HS.bnd H
    try simp -implicitDefEqProofs +decide (maxSteps:=999999) [-selQ_sel,hokQ_of,A3,A4,A5]
    obtain ⟨v7,A6,H⟩:=HS.bnd H
    try simp -implicitDefEqProofs +decide (maxSteps:=999999) [-selQ_sel,hokQ_of,A3,A4,A5,A6]
    refine Hid.brV (fun A7=>?_) (fun A7=>?_)
    ·replace H:=HS.cnd_t A7 H
     try simp -implicitDefEqProofs +decide (maxSteps:=999999) [-selQ_sel,hokQ_of,A3,A4,A5,A6,A7]
     have hr:=(HS.some H).symm;subst hr
     exact Hid.mk ⟨laws_eqPointS_l0_S a0 a1 (IntKind.i64.wrap (x4 + 1)),Wk.ofk [] hk (by rfl) (by simp -implicitDefEqProofs [laws_eqPointS_l0_S,A3,A4,A5,A6,A7]) (by simp -implicitDefEqProofs [laws_eqPointS_l0_S,A3,A4,A5,A6,A7]),hR⟩
    ·replace H:=HS.cnd_f A7 H
     try simp -implicitDefEqProofs +decide (maxSteps:=999999) [-selQ_sel,hokQ_of,A3,A4,A5,A6,A7]
     have hr:=(HS.some H).symm;subst hr
     exact Hid.mk ⟨(laws_eqPointS_l0_X a0 a1 (.inr ())).2,Wk.ofk [] hk (by rfl) (by simp -implicitDefEqProofs [laws_eqPointS_l0_X,A3,A4,A5,A6,A7]) (by simp -implicitDefEqProofs [laws_eqPointS_l0_X,A3,A4,A5,A6,A7]),hR⟩
  ·rcases q with ⟨⟩ | ⟨⟩
   ·dsimp only at H
    try simp -implicitDefEqProofs +decide (maxSteps:=999999) [-selQ_sel,hokQ_of,A1,laws_eqPointS_l0_X]
    have hr:=(HS.some H).symm;subst hr
    refine Hid.mk ⟨_,Wk.refl _,?_⟩
    try simp -implicitDefEqProofs +decide (maxSteps:=999999) [-selQ_sel,hokQ_of,A1]
   ·dsimp only at H
    try simp -implicitDefEqProofs +decide (maxSteps:=999999) [-selQ_sel,hokQ_of,A1,laws_eqPointS_l0_X]
    have hr:=(HS.some H).symm;subst hr
    refine Hid.mk ⟨_,Wk.refl _,?_⟩
    try simp -implicitDefEqProofs +decide (maxSteps:=999999) [-selQ_sel,hokQ_of,A1]
 ·replace H:=HS.cnd_f A1 H
  try simp -implicitDefEqProofs +decide (maxSteps:=999999) [-selQ_sel,hokQ_of,A1]
  have hr:=(HS.some H).symm;subst hr
  refine Hid.mk ⟨_,Wk.refl _,?_⟩
  try simp -implicitDefEqProofs +decide (maxSteps:=999999) [-selQ_sel,hokQ_of,A1]
theorem spec_l15Under_ok0 (hm:Try.prog.follows .mixedOrders = true) (k_spec_NodeAt:Sound Try.prog 45 spec_NodeAt_x):Sound Try.prog 46 spec_l15Under_x:=by
 refine xOf_sound fun q r h=>?_
 obtain ⟨a0,a1,a2⟩:=q
 refine fn_ok E0 hm Try.func46 rfl (by decide +kernel) (by rfl) fun Γ hn hk=>?_
 dsimp only [spec_l15Under_e,spec_l15Under_v]
 replace hn:Γ.n = 27:=hn
 replace hk:Γ.k = 0:=hk
 have H:HS (spec_l15Under a0 a1 a2) r:=h
 clear h;unfold spec_l15Under at H
 try simp -implicitDefEqProofs at H
 refine Tr.of_vc (cl:=tabC [(45,spec_NodeAt_x)]) (E:=E0) [] (tab_cons k_spec_NodeAt tab_nil) hm (by rw [hn];decide +kernel) ?_
 try simp -implicitDefEqProofs (maxSteps:=999999) [-selQ_sel]
 obtain ⟨q,A1,H⟩:=HS.bnd H
 refine Hid.mk (Tr.weak (s':=(spec_l15Under_l0_S a0 a2) (a1,0)) (Wk.ofk [0] hk (by rfl) (by simp -implicitDefEqProofs [spec_l15Under_l0_S]) (by simp -implicitDefEqProofs [spec_l15Under_l0_S])) ?_)
 refine wp_loop_of (S:=(spec_l15Under_l0_S a0 a2)) (f:=(spec_l15Under_l0 a0 a2)) (xt:=(spec_l15Under_l0_X a0 a2)) ?_ ?_ A1 ?_
 ·intro q;rcases q with y7 | ⟨⟩ <;> simp [spec_l15Under_l0_X]
 ·clear H A1 q
  rintro ⟨x3,x4⟩ o R hf hR
  have H:HS (spec_l15Under_l0 a0 a2 (x3,x4)) o:=hf
  clear hf;unfold spec_l15Under_l0 at H
  try simp -implicitDefEqProofs at H
  refine Tr.of_vc (cl:=tabC [(45,spec_NodeAt_x)]) (E:=E0) [] (tab_cons k_spec_NodeAt tab_nil) hm (by rw [hn];decide +kernel) ?_
  try simp -implicitDefEqProofs (maxSteps:=999999) [-selQ_sel,spec_l15Under_l0_S]
  refine Hid.brV (fun A2=>?_) (fun A2=>?_)
  ·replace H:=HS.cnd_t A2 H
   try simp -implicitDefEqProofs (maxSteps:=999999) [-selQ_sel,A2]
   refine Hid.brV (fun A3=>?_) (fun A3=>?_)
   ·replace H:=HS.cnd_t A3 H
    try simp -implicitDefEqProofs (maxSteps:=999999) [-selQ_sel,A2,A3]
    have hr:=(HS.some H).symm;subst hr
    exact Hid.mk ⟨(spec_l15Under_l0_X a0 a2 (.inl true)).2,Wk.ofk [] hk (by rfl) (by simp -implicitDefEqProofs [spec_l15Under_l0_X,A2,A3]) (by simp -implicitDefEqProofs [spec_l15Under_l0_X,A2,A3]),hR⟩
   ·replace H:=HS.cnd_f A3 H
    try simp -implicitDefEqProofs (maxSteps:=999999) [-selQ_sel,A2,A3]
    obtain ⟨v5,A4,H⟩:=HS.bnd H
    try simp -implicitDefEqProofs (maxSteps:=999999) [-selQ_sel,A2,A3,A4]
    refine Hid.brV (fun A5=>?_) (fun A5=>?_)
    ·replace H:=HS.cnd_t A5 H
     try simp -implicitDefEqProofs (maxSteps:=999999) [-selQ_sel,A2,A3,A4,A5]
     obtain ⟨v6,A6,H⟩:=HS.bnd H
     try simp -implicitDefEqProofs (maxSteps:=999999) [-selQ_sel,A2,A3,A4,A5,A6]
     have hr:=(HS.some H).symm;subst hr
     exact Hid.mk ⟨spec_l15Under_l0_S a0 a2 (v6.parent,(IntKind.i64.wrap (x4 + 1))),Wk.ofk [0] hk (by rfl) (by simp -implicitDefEqProofs [spec_l15Under_l0_S,A2,A3,A4,A5,A6]) (by simp -implicitDefEqProofs [spec_l15Under_l0_S,A2,A3,A4,A5,A6]),hR⟩
    ·replace H:=HS.cnd_f A5 H
     try simp -implicitDefEqProofs (maxSteps:=999999) [-selQ_sel,A2,A3,A4,A5]
     have hr:=(HS.some H).symm;subst hr
     exact Hid.mk ⟨(spec_l15Under_l0_X a0 a2 (.inl false)).2,Wk.ofk [] hk (by rfl) (by simp -implicitDefEqProofs [spec_l15Under_l0_X,A2,A3,A4,A5]) (by simp -implicitDefEqProofs [spec_l15Under_l0_X,A2,A3,A4,A5]),hR⟩
  ·replace H:=HS.cnd_f A2 H
   try simp -implicitDefEqProofs (maxSteps:=999999) [-selQ_sel,A2]
   have hr:=(HS.some H).symm;subst hr
   exact Hid.mk ⟨(spec_l15Under_l0_X a0 a2 (.inr ())).2,Wk.ofk [] hk (by rfl) (by simp -implicitDefEqProofs [spec_l15Under_l0_X,A2]) (by simp -implicitDefEqProofs [spec_l15Under_l0_X,A2]),hR⟩
 ·rcases q with y7 | ⟨⟩
  ·dsimp only at H
   try simp -implicitDefEqProofs (maxSteps:=999999) [-selQ_sel,spec_l15Under_l0_X]
   have hr:=(HS.some H).symm;subst hr
   refine Hid.mk ⟨_,Wk.refl _,?_⟩
   try simp -implicitDefEqProofs (maxSteps:=999999) [-selQ_sel]
  ·dsimp only at H
   try simp -implicitDefEqProofs (maxSteps:=999999) [-selQ_sel,spec_l15Under_l0_X]
   have hr:=(HS.some H).symm;subst hr
   refine Hid.mk ⟨_,Wk.refl _,?_⟩
   try simp -implicitDefEqProofs (maxSteps:=999999) [-selQ_sel]
theorem laws_eqIntS_ok0 (hm:Try.prog.follows .mixedOrders = true):Sound Try.prog 68 laws_eqIntS_x:=by
 refine xOf_sound fun q r h=>?_
 obtain ⟨a0,a1⟩:=q
 refine fn_ok E0 hm Try.func68 rfl (by decide +kernel) (by rfl) fun Γ hn hk=>?_
 dsimp only [laws_eqIntS_e,laws_eqIntS_v]
 replace hn:Γ.n = 26:=hn
 replace hk:Γ.k = 0:=hk
 have H:HS (laws_eqIntS a0 a1) r:=h
 clear h;unfold laws_eqIntS at H
 try simp -implicitDefEqProofs at H
 refine Tr.of_vc (cl:=tabC []) (E:=E0) [] tab_nil hm (by rw [hn];decide +kernel) ?_
 try simp -implicitDefEqProofs +decide (maxSteps:=999999) [-selQ_sel,hokQ_of]
 refine Hid.brV (fun A1=>?_) (fun A1=>?_)
 ·replace H:=HS.cnd_t A1 H
  try simp -implicitDefEqProofs +decide (maxSteps:=999999) [-selQ_sel,hokQ_of,A1]
  obtain ⟨q,A2,H⟩:=HS.bnd H
  refine Hid.mk (Tr.weak (s':=(laws_eqIntS_l0_S a0 a1) 0) (Wk.ofk [] hk (by rfl) (by simp -implicitDefEqProofs [laws_eqIntS_l0_S,A1]) (by simp -implicitDefEqProofs [laws_eqIntS_l0_S,A1])) ?_)
  refine wp_loop_of (S:=(laws_eqIntS_l0_S a0 a1)) (f:=(laws_eqIntS_l0 a0 a1)) (xt:=(laws_eqIntS_l0_X a0 a1)) ?_ ?_ A2 ?_
  ·intro q;rcases q with ⟨⟩ | ⟨⟩ <;> simp [laws_eqIntS_l0_X]
  ·clear H A2 q
   rintro x3 o R hf hR
   have H:HS (laws_eqIntS_l0 a0 a1 x3) o:=hf
   clear hf;unfold laws_eqIntS_l0 at H
   try simp -implicitDefEqProofs at H
   refine Tr.of_vc (cl:=tabC []) (E:=E0) [] tab_nil hm (by rw [hn];decide +kernel) ?_
   try simp -implicitDefEqProofs +decide (maxSteps:=999999) [-selQ_sel,hokQ_of,laws_eqIntS_l0_S]
   refine Hid.brV (fun A3=>?_) (fun A3=>?_)
   ·replace H:=HS.cnd_t A3 H
    try simp -implicitDefEqProofs +decide (maxSteps:=999999) [-selQ_sel,hokQ_of,A3]
    have hr:=(HS.some H).symm;subst hr
    exact Hid.mk ⟨(laws_eqIntS_l0_X a0 a1 (.inl ())).2,Wk.ofk [] hk (by rfl) (by simp -implicitDefEqProofs [laws_eqIntS_l0_X,A3]) (by simp -implicitDefEqProofs [laws_eqIntS_l0_X,A3]),hR⟩
   ·replace H:=HS.cnd_f A3 H
    try simp -implicitDefEqProofs +decide (maxSteps:=999999) [-selQ_sel,hokQ_of,A3]
    obtain ⟨v4,A4,H⟩:=HS.bnd H
    try simp -implicitDefEqProofs +decide (maxSteps:=999999) [-selQ_sel,hokQ_of,A3,A4]
    obtain ⟨v5,A5,H⟩:=HS.bnd H
    try simp -implicitDefEqProofs +decide (maxSteps:=999999) [-selQ_sel,hokQ_of,A3,A4,A5]
    refine Hid.brV (fun A6=>?_) (fun A6=>?_)
    ·replace H:=HS.cnd_t A6 H
     try simp -implicitDefEqProofs +decide (maxSteps:=999999) [-selQ_sel,hokQ_of,A3,A4,A5,A6]
     have hr:=(HS.some H).symm;subst hr
     exact Hid.mk ⟨laws_eqIntS_l0_S a0 a1 (IntKind.i64.wrap (x3 + 1)),Wk.ofk [] hk (by rfl) (by simp -implicitDefEqProofs [laws_eqIntS_l0_S,A3,A4,A5,A6]) (by simp -implicitDefEqProofs [laws_eqIntS_l0_S,A3,A4,A5,A6]),hR⟩
    ·replace H:=HS.cnd_f A6 H
     try simp -implicitDefEqProofs +decide (maxSteps:=999999) [-selQ_sel,hokQ_of,A3,A4,A5,A6]
     have hr:=(HS.some H).symm;subst hr
     exact Hid.mk ⟨(laws_eqIntS_l0_X a0 a1 (.inr ())).2,Wk.ofk [] hk (by rfl) (by simp -implicitDefEqProofs [laws_eqIntS_l0_X,A3,A4,A5,A6]) (by simp -implicitDefEqProofs [laws_eqIntS_l0_X,A3,A4,A5,A6]),hR⟩
  ·rcases q with ⟨⟩ | ⟨⟩
   ·dsimp only at H
    try simp -implicitDefEqProofs +decide (maxSteps:=999999) [-selQ_sel,hokQ_of,A1,laws_eqIntS_l0_X]
    have hr:=(HS.some H).symm;subst hr
    refine Hid.mk ⟨_,Wk.refl _,?_⟩
    try simp -implicitDefEqProofs +decide (maxSteps:=999999) [-selQ_sel,hokQ_of,A1]
   ·dsimp only at H
    try simp -implicitDefEqProofs +decide (maxSteps:=999999) [-selQ_sel,hokQ_of,A1,laws_eqIntS_l0_X]
    have hr:=(HS.some H).symm;subst hr
    refine Hid.mk ⟨_,Wk.refl _,?_⟩
    try simp -implicitDefEqProofs +decide (maxSteps:=999999) [-selQ_sel,hokQ_of,A1]
 ·replace H:=HS.cnd_f A1 H
  try simp -implicitDefEqProofs +decide (maxSteps:=999999) [-selQ_sel,hokQ_of,A1]
  have hr:=(HS.some H).symm;subst hr
  refine Hid.mk ⟨_,Wk.refl _,?_⟩
  try simp -implicitDefEqProofs +decide (maxSteps:=999999) [-selQ_sel,hokQ_of,A1]
theorem slices_IndexFunc_Node_NodeAt_1_ok0 (hm:Try.prog.follows .mixedOrders = true) (k_impl_NodeAt_1:Sound Try.prog 49 impl_NodeAt_1_x):Sound Try.prog 48 slices_IndexFunc_Node_NodeAt_1_x:=by
 refine xOf_sound fun q r h=>?_
 obtain ⟨a0,a1⟩:=q
 refine fn_ok E0 hm Try.func48 rfl (by decide +kernel) (by rfl) fun Γ hn hk=>?_
 dsimp only [slices_IndexFunc_Node_NodeAt_1_e,slices_IndexFunc_Node_NodeAt_1_v]
 replace hn:Γ.n = 19:=hn
 replace hk:Γ.k = 0:=hk
 have H:HS (slices_IndexFunc_Node_NodeAt_1 a0 a1) r:=h
 clear h;unfold slices_IndexFunc_Node_NodeAt_1 at H
 try simp -implicitDefEqProofs at H
 refine Tr.of_vc (cl:=tabC [(49,impl_NodeAt_1_x)]) (E:=E0) [] (tab_cons k_impl_NodeAt_1 tab_nil) hm (by rw [hn];decide +kernel) ?_
 try simp -implicitDefEqProofs (maxSteps:=999999) [-selQ_sel]
 obtain ⟨q,A1,H⟩:=HS.bnd H
 refine Hid.mk (Tr.weak (s':=(slices_IndexFunc_Node_NodeAt_1_l0_S a0 a1) 0) (Wk.ofk [] hk (by rfl) (by simp -implicitDefEqProofs [slices_IndexFunc_Node_NodeAt_1_l0_S]) (by simp -implicitDefEqProofs [slices_IndexFunc_Node_NodeAt_1_l0_S])) ?_)
 refine wp_loop_of (S:=(slices_IndexFunc_Node_NodeAt_1_l0_S a0 a1)) (f:=(slices_IndexFunc_Node_NodeAt_1_l0 a0 a1)) (xt:=(slices_IndexFunc_Node_NodeAt_1_l0_X a0 a1)) ?_ ?_ A1 ?_
 ·intro q;rcases q with ⟨⟩ | y6 <;> simp [slices_IndexFunc_Node_NodeAt_1_l0_X]
 ·clear H A1 q
  rintro x3 o R hf hR
  have H:HS (slices_IndexFunc_Node_NodeAt_1_l0 a0 a1 x3) o:=hf
  clear hf;unfold slices_IndexFunc_Node_NodeAt_1_l0 at H
  try simp -implicitDefEqProofs at H
  refine Tr.of_vc (cl:=tabC [(49,impl_NodeAt_1_x)]) (E:=E0) [] (tab_cons k_impl_NodeAt_1 tab_nil) hm (by rw [hn];decide +kernel) ?_
  try simp -implicitDefEqProofs (maxSteps:=999999) [-selQ_sel,slices_IndexFunc_Node_NodeAt_1_l0_S]
  refine Hid.brV (fun A2=>?_) (fun A2=>?_)
  ·replace H:=HS.cnd_t A2 H
   try simp -implicitDefEqProofs (maxSteps:=999999) [-selQ_sel,A2]
   have hr:=(HS.some H).symm;subst hr
   exact Hid.mk ⟨(slices_IndexFunc_Node_NodeAt_1_l0_X a0 a1 (.inl ())).2,Wk.ofk [] hk (by rfl) (by simp -implicitDefEqProofs [slices_IndexFunc_Node_NodeAt_1_l0_X,A2]) (by simp -implicitDefEqProofs [slices_IndexFunc_Node_NodeAt_1_l0_X,A2]),hR⟩
  ·replace H:=HS.cnd_f A2 H
   try simp -implicitDefEqProofs (maxSteps:=999999) [-selQ_sel,A2]
   obtain ⟨v4,A3,H⟩:=HS.bnd H
   try simp -implicitDefEqProofs (maxSteps:=999999) [-selQ_sel,A2,A3]
   obtain ⟨v5,A4,H⟩:=HS.bnd H
   try simp -implicitDefEqProofs (maxSteps:=999999) [-selQ_sel,A2,A3,A4]
   refine Hid.brV (fun A5=>?_) (fun A5=>?_)
   ·replace H:=HS.cnd_t A5 H
    try simp -implicitDefEqProofs (maxSteps:=999999) [-selQ_sel,A2,A3,A4,A5]
    have hr:=(HS.some H).symm;subst hr
    exact Hid.mk ⟨(slices_IndexFunc_Node_NodeAt_1_l0_X a0 a1 (.inr x3)).2,Wk.ofk [] hk (by rfl) (by simp -implicitDefEqProofs [slices_IndexFunc_Node_NodeAt_1_l0_X,A2,A3,A4,A5]) (by simp -implicitDefEqProofs [slices_IndexFunc_Node_NodeAt_1_l0_X,A2,A3,A4,A5]),hR⟩
   ·replace H:=HS.cnd_f A5 H
    try simp -implicitDefEqProofs (maxSteps:=999999) [-selQ_sel,A2,A3,A4,A5]
    have hr:=(HS.some H).symm;subst hr
    exact Hid.mk ⟨slices_IndexFunc_Node_NodeAt_1_l0_S a0 a1 (IntKind.i64.wrap (x3 + 1)),Wk.ofk [] hk (by rfl) (by simp -implicitDefEqProofs [slices_IndexFunc_Node_NodeAt_1_l0_S,A2,A3,A4,A5]) (by simp -implicitDefEqProofs [slices_IndexFunc_Node_NodeAt_1_l0_S,A2,A3,A4,A5]),hR⟩
 ·rcases q with ⟨⟩ | y6
  ·dsimp only at H
   try simp -implicitDefEqProofs (maxSteps:=999999) [-selQ_sel,slices_IndexFunc_Node_NodeAt_1_l0_X]
   have hr:=(HS.some H).symm;subst hr
   refine Hid.mk ⟨_,Wk.refl _,?_⟩
   try simp -implicitDefEqProofs (maxSteps:=999999) [-selQ_sel]
  ·dsimp only at H
   try simp -implicitDefEqProofs (maxSteps:=999999) [-selQ_sel,slices_IndexFunc_Node_NodeAt_1_l0_X]
   have hr:=(HS.some H).symm;subst hr
   refine Hid.mk ⟨_,Wk.refl _,?_⟩
   try simp -implicitDefEqProofs (maxSteps:=999999) [-selQ_sel]
theorem spec_DashOk_ok0 (hm:Try.prog.follows .mixedOrders = true) (k_spec_l01In:Sound Try.prog 87 spec_l01In_x):Sound Try.prog 100 spec_DashOk_x:=by
 refine xOf_sound fun q r h=>?_
 revert h;revert r;revert q;intro a0 r h
 refine fn_ok E0 hm Try.func100 rfl (by decide +kernel) (by rfl) fun Γ hn hk=>?_
 dsimp only [spec_DashOk_e,spec_DashOk_v]
 replace hn:Γ.n = 25:=hn
 replace hk:Γ.k = 0:=hk
 have H:HS (spec_DashOk a0) r:=h
 clear h;unfold spec_DashOk at H
 try simp -implicitDefEqProofs at H
 refine Tr.of_vc (cl:=tabC [(87,spec_l01In_x)]) (E:=E0) [] (tab_cons k_spec_l01In tab_nil) hm (by rw [hn];decide +kernel) ?_
 try simp -implicitDefEqProofs (maxSteps:=999999) [-selQ_sel]
 obtain ⟨q,A1,H⟩:=HS.bnd H
 refine Hid.mk (Tr.weak (s':=(spec_DashOk_l0_S a0) 0) (Wk.ofk [] hk (by rfl) (by simp -implicitDefEqProofs [spec_DashOk_l0_S]) (by simp -implicitDefEqProofs [spec_DashOk_l0_S])) ?_)
 refine wp_loop_of (S:=(spec_DashOk_l0_S a0)) (f:=(spec_DashOk_l0 a0)) (xt:=(spec_DashOk_l0_X a0)) ?_ ?_ A1 ?_
 ·intro q;rcases q with ⟨⟩ | ⟨⟩ <;> simp [spec_DashOk_l0_X]
 ·clear H A1 q
  rintro x3 o R hf hR
  have H:HS (spec_DashOk_l0 a0 x3) o:=hf
  clear hf;unfold spec_DashOk_l0 at H
  try simp -implicitDefEqProofs at H
  refine Tr.of_vc (cl:=tabC [(87,spec_l01In_x)]) (E:=E0) [] (tab_cons k_spec_l01In tab_nil) hm (by rw [hn];decide +kernel) ?_
  try simp -implicitDefEqProofs (maxSteps:=999999) [-selQ_sel,spec_DashOk_l0_S]
  refine Hid.brV (fun A2=>?_) (fun A2=>?_)
  ·replace H:=HS.cnd_t A2 H
   try simp -implicitDefEqProofs (maxSteps:=999999) [-selQ_sel,A2]
   have hr:=(HS.some H).symm;subst hr
   exact Hid.mk ⟨(spec_DashOk_l0_X a0 (.inl ())).2,Wk.ofk [] hk (by rfl) (by simp -implicitDefEqProofs [spec_DashOk_l0_X,A2]) (by simp -implicitDefEqProofs [spec_DashOk_l0_X,A2]),hR⟩
  ·replace H:=HS.cnd_f A2 H
   try simp -implicitDefEqProofs (maxSteps:=999999) [-selQ_sel,A2]
   obtain ⟨v4,A3,H⟩:=HS.bnd H
   try simp -implicitDefEqProofs (maxSteps:=999999) [-selQ_sel,A2,A3]
   obtain ⟨v5,A4,H⟩:=HS.bnd H
   try simp -implicitDefEqProofs (maxSteps:=999999) [-selQ_sel,A2,A3,A4]
   refine Hid.brV (fun A5=>?_) (fun A5=>?_)
   ·replace H:=HS.cnd_t A5 H
    try simp -implicitDefEqProofs (maxSteps:=999999) [-selQ_sel,A2,A3,A4,A5]
    have hr:=(HS.some H).symm;subst hr
    exact Hid.mk ⟨spec_DashOk_l0_S a0 (IntKind.i64.wrap (x3 + 1)),Wk.ofk [] hk (by rfl) (by simp -implicitDefEqProofs [spec_DashOk_l0_S,A2,A3,A4,A5]) (by simp -implicitDefEqProofs [spec_DashOk_l0_S,A2,A3,A4,A5]),hR⟩
   ·replace H:=HS.cnd_f A5 H
    try simp -implicitDefEqProofs (maxSteps:=999999) [-selQ_sel,A2,A3,A4,A5]
    have hr:=(HS.some H).symm;subst hr
    exact Hid.mk ⟨(spec_DashOk_l0_X a0 (.inr ())).2,Wk.ofk [] hk (by rfl) (by simp -implicitDefEqProofs [spec_DashOk_l0_X,A2,A3,A4,A5]) (by simp -implicitDefEqProofs [spec_DashOk_l0_X,A2,A3,A4,A5]),hR⟩
 ·rcases q with ⟨⟩ | ⟨⟩
  ·dsimp only at H
   try simp -implicitDefEqProofs (maxSteps:=999999) [-selQ_sel,spec_DashOk_l0_X]
   refine Hid.selQ (fun A6=>?_) (fun A6=>?_)
   ·replace H:=HS.cnd_t A6 H
    try simp -implicitDefEqProofs (maxSteps:=999999) [-selQ_sel,A6]
    have hr:=(HS.some H).symm;subst hr
    refine Hid.mk ⟨_,Wk.refl _,?_⟩
    try simp -implicitDefEqProofs (maxSteps:=999999) [-selQ_sel,A6]
   ·replace H:=HS.cnd_f A6 H
    try simp -implicitDefEqProofs (maxSteps:=999999) [-selQ_sel,A6]
    have hr:=(HS.some H).symm;subst hr
    refine Hid.mk ⟨_,Wk.refl _,?_⟩
    try simp -implicitDefEqProofs (maxSteps:=999999) [-selQ_sel,A6]
  ·dsimp only at H
   try simp -implicitDefEqProofs (maxSteps:=999999) [-selQ_sel,spec_DashOk_l0_X]
   have hr:=(HS.some H).symm;subst hr
   refine Hid.mk ⟨_,Wk.refl _,?_⟩
   try simp -implicitDefEqProofs (maxSteps:=999999) [-selQ_sel]
theorem laws_toIntS_ok0 (hm:Try.prog.follows .mixedOrders = true):Sound Try.prog 62 laws_toIntS_x:=by
 refine xOf_sound fun q r h=>?_
 revert h;revert r;revert q;intro a0 r h
 refine fn_ok E0 hm Try.func62 rfl (by decide +kernel) (by rfl) fun Γ hn hk=>?_
 dsimp only [laws_toIntS_e,laws_toIntS_v]
 replace hn:Γ.n = 22:=hn
 replace hk:Γ.k = 0:=hk
 have H:HS (laws_toIntS a0) r:=h
 clear h;unfold laws_toIntS at H
 try simp -implicitDefEqProofs at H
 refine Tr.of_vc (cl:=tabC []) (E:=E0) [] tab_nil hm (by rw [hn];decide +kernel) ?_
 try simp -implicitDefEqProofs (maxSteps:=999999) [-selQ_sel]
 obtain ⟨A1,H⟩:=HS.chkP H
 try simp -implicitDefEqProofs (maxSteps:=999999) [-selQ_sel,A1]
 obtain ⟨l1,A2,H⟩:=HS.nam H
 have E3:=congrArg (List.map (AV.int .i64)) A2
 have D4:=congrArg List.length A2
 simp -implicitDefEqProofs at E3 D4
 try simp only [D4] at E3
 try simp only [D4] at A1
 try simp -implicitDefEqProofs (maxSteps:=999999) [-selQ_sel,A1,E3,D4]
 obtain ⟨q,A5,H⟩:=HS.bnd H
 refine Hid.mk (Tr.weak (s':=(laws_toIntS_l0_S a0) (0,l1)) (Wk.ofk [0] hk (by rfl) (by simp -implicitDefEqProofs [laws_toIntS_l0_S,A1,E3,D4]) (by simp -implicitDefEqProofs [laws_toIntS_l0_S,A1,E3,D4])) ?_)
 refine wp_loop_of (S:=(laws_toIntS_l0_S a0)) (f:=(laws_toIntS_l0 a0)) (xt:=(laws_toIntS_l0_X a0)) ?_ ?_ A5 ?_
 ·intro q;simp [laws_toIntS_l0_X]
 ·clear H A5 q
  rintro ⟨x5,x6⟩ o R hf hR
  have H:HS (laws_toIntS_l0 a0 (x5,x6)) o:=hf
  clear hf;unfold laws_toIntS_l0 at H
  try simp -implicitDefEqProofs at H
  refine Tr.of_vc (cl:=tabC []) (E:=E0) [] tab_nil hm (by rw [hn];decide +kernel) ?_
  try simp -implicitDefEqProofs (maxSteps:=999999) [-selQ_sel,laws_toIntS_l0_S]
  refine Hid.brV (fun A6=>?_) (fun A6=>?_)
  ·replace H:=HS.cnd_t A6 H
   try simp -implicitDefEqProofs (maxSteps:=999999) [-selQ_sel,A6]
   have hr:=(HS.some H).symm;subst hr
   exact Hid.mk ⟨(laws_toIntS_l0_X a0 x6).2,Wk.ofk [0] hk (by rfl) (by simp -implicitDefEqProofs [laws_toIntS_l0_X,A6]) (by simp -implicitDefEqProofs [laws_toIntS_l0_X,A6]),hR⟩
  ·replace H:=HS.cnd_f A6 H
   try simp -implicitDefEqProofs (maxSteps:=999999) [-selQ_sel,A6]
   obtain ⟨v7,A7,H⟩:=HS.bnd H
   try simp -implicitDefEqProofs (maxSteps:=999999) [-selQ_sel,A6,A7]
   obtain ⟨v8,A8,H⟩:=HS.bnd H
   have B9:=idx_get A8
   try simp -implicitDefEqProofs (maxSteps:=999999) [-selQ_sel,A6,A7,A8,B9]
   obtain ⟨l9,A10,H⟩:=HS.nam H
   have E11:=congrArg (List.map (AV.int .i64)) A10
   have D12:=congrArg List.length A10
   simp -implicitDefEqProofs at E11 D12
   try simp only [D12] at E11
   try simp only [D12] at B9
   try simp -implicitDefEqProofs (maxSteps:=999999) [-selQ_sel,A6,A7,A8,B9,E11,D12]
   have hr:=(HS.some H).symm;subst hr
   exact Hid.mk ⟨laws_toIntS_l0_S a0 ((IntKind.i64.wrap (x5 + 1)),l9),Wk.ofk [0] hk (by rfl) (by simp -implicitDefEqProofs [laws_toIntS_l0_S,A6,A7,A8,B9,E11,D12]) (by simp -implicitDefEqProofs [laws_toIntS_l0_S,A6,A7,A8,B9,E11,D12]),hR⟩
 ·revert H A5;revert q;intro y10 A5 H
  try dsimp only at H
  try simp -implicitDefEqProofs (maxSteps:=999999) [-selQ_sel,A1,E3,D4,laws_toIntS_l0_X]
  have hr:=(HS.some H).symm;subst hr
  refine Hid.mk ⟨⟨[(2,AV.osl 0 0 (List.length y10) (List.length y10))],[(0,Ob.arr 1 (List.map (AV.int .i64) y10) false)],1⟩,Wk.ofk [0] hk (by rfl) (by simp -implicitDefEqProofs [A1,E3,D4]) (by simp -implicitDefEqProofs [A1,E3,D4]),?_⟩
  try simp -implicitDefEqProofs (maxSteps:=999999) [-selQ_sel,A1,E3,D4]
theorem laws_markPointS_ok0 (hm:Try.prog.follows .mixedOrders = true):Sound Try.prog 112 laws_markPointS_x:=by
 refine xOf_sound fun q r h=>?_
 obtain ⟨a0,a1⟩:=q
 refine fn_ok E0 hm Try.func112 rfl (by decide +kernel) (by rfl) fun Γ hn hk=>?_
 dsimp only [laws_markPointS_e,laws_markPointS_v]
 replace hn:Γ.n = 27:=hn
 replace hk:Γ.k = 1:=hk
 have H:HS (laws_markPointS a0 a1) r:=h
 clear h;unfold laws_markPointS at H
 try simp -implicitDefEqProofs at H
 refine Tr.of_vc (cl:=tabC []) (E:=E0) [] tab_nil hm (by rw [hn];decide +kernel) ?_
 try simp -implicitDefEqProofs (maxSteps:=999999) [-selQ_sel]
 obtain ⟨q,A1,H⟩:=HS.bnd H
 refine Hid.mk (Tr.weak (s':=laws_markPointS_l0_S (a0,0,a1)) (Wk.ofk [0] hk (by rfl) (by simp -implicitDefEqProofs [laws_markPointS_l0_S]) (by simp -implicitDefEqProofs [laws_markPointS_l0_S])) ?_)
 refine wp_loop_of (S:=laws_markPointS_l0_S) (f:=laws_markPointS_l0) (xt:=laws_markPointS_l0_X) ?_ ?_ A1 ?_
 ·intro q;rcases q with ⟨y12,y13⟩ <;> simp [laws_markPointS_l0_X]
 ·clear H A1 q
  rintro ⟨x5,x6,x7⟩ o R hf hR
  have H:HS (laws_markPointS_l0 (x5,x6,x7)) o:=hf
  clear hf;unfold laws_markPointS_l0 at H
  try simp -implicitDefEqProofs at H
  refine Tr.of_vc (cl:=tabC []) (E:=E0) [] tab_nil hm (by rw [hn];decide +kernel) ?_
  try simp -implicitDefEqProofs (maxSteps:=999999) [-selQ_sel,laws_markPointS_l0_S]
  refine Hid.brV (fun A2=>?_) (fun A2=>?_)
  ·replace H:=HS.cnd_t A2 H
   try simp -implicitDefEqProofs (maxSteps:=999999) [-selQ_sel,A2]
   have hr:=(HS.some H).symm;subst hr
   exact Hid.mk ⟨(laws_markPointS_l0_X (x7,x5)).2,Wk.ofk [0] hk (by rfl) (by simp -implicitDefEqProofs [laws_markPointS_l0_X,A2]) (by simp -implicitDefEqProofs [laws_markPointS_l0_X,A2]),hR⟩
  ·replace H:=HS.cnd_f A2 H
   try simp -implicitDefEqProofs (maxSteps:=999999) [-selQ_sel,A2]
   obtain ⟨v8,A3,H⟩:=HS.bnd H
   have B4:=idx_get A3
   try simp -implicitDefEqProofs (maxSteps:=999999) [-selQ_sel,A2,A3,B4]
   obtain ⟨l9,A5,H⟩:=HS.nam H
   have E6:=congrArg (List.map ePoint) A5
   have D7:=congrArg List.length A5
   simp -implicitDefEqProofs at E6 D7
   try simp only [D7] at E6
   try simp only [D7] at B4
   try simp -implicitDefEqProofs (maxSteps:=999999) [-selQ_sel,A2,A3,B4,E6,D7]
   obtain ⟨v10,A8,H⟩:=HS.bnd H
   have B9:=idx_get A8
   try simp -implicitDefEqProofs (maxSteps:=999999) [-selQ_sel,A2,A3,B4,E6,D7,A8,B9]
   obtain ⟨l11,A10,H⟩:=HS.nam H
   have E11:=congrArg (List.map ePoint) A10
   have D12:=congrArg List.length A10
   simp -implicitDefEqProofs at E11 D12
   try simp only [D12] at E11
   try simp only [D12] at B9
   try simp -implicitDefEqProofs (maxSteps:=999999) [-selQ_sel,A2,A3,B4,E6,D7,A8,B9,E11,D12]
   have hr:=(HS.some H).symm;subst hr
   exact Hid.mk ⟨laws_markPointS_l0_S ((IntKind.i64.wrap ((IntKind.i64.wrap (x5 + 1)) + 1)),(IntKind.i64.wrap (x6 + 1)),l11),Wk.ofk [0] hk (by rfl) (by simp -implicitDefEqProofs [laws_markPointS_l0_S,A2,A3,B4,E6,D7,A8,B9,E11,D12]) (by simp -implicitDefEqProofs [laws_markPointS_l0_S,A2,A3,B4,E6,D7,A8,B9,E11,D12]),hR⟩
 ·obtain ⟨y12,y13⟩:=q
  try dsimp only at H
  try simp -implicitDefEqProofs (maxSteps:=999999) [-selQ_sel,laws_markPointS_l0_X]
  have hr:=(HS.some H).symm;subst hr
  refine Hid.mk ⟨_,Wk.refl _,?_⟩
  try simp -implicitDefEqProofs (maxSteps:=999999) [-selQ_sel]
theorem laws_heldIntS_ok0 (hm:Try.prog.follows .mixedOrders = true):Sound Try.prog 113 laws_heldIntS_x:=by
 refine xOf_sound fun q r h=>?_
 obtain ⟨a0,a1⟩:=q
 refine fn_ok E0 hm Try.func113 rfl (by decide +kernel) (by rfl) fun Γ hn hk=>?_
 dsimp only [laws_heldIntS_e,laws_heldIntS_v]
 replace hn:Γ.n = 21:=hn
 replace hk:Γ.k = 0:=hk
 have H:HS (laws_heldIntS a0 a1) r:=h
 clear h;unfold laws_heldIntS at H
 try simp -implicitDefEqProofs at H
 refine Tr.of_vc (cl:=tabC []) (E:=E0) [] tab_nil hm (by rw [hn];decide +kernel) ?_
 try simp -implicitDefEqProofs (maxSteps:=999999) [-selQ_sel]
 obtain ⟨q,A1,H⟩:=HS.bnd H
 refine Hid.mk (Tr.weak (s':=(laws_heldIntS_l0_S a0) (a1,0)) (Wk.ofk [] hk (by rfl) (by simp -implicitDefEqProofs [laws_heldIntS_l0_S]) (by simp -implicitDefEqProofs [laws_heldIntS_l0_S])) ?_)
 refine wp_loop_of (S:=(laws_heldIntS_l0_S a0)) (f:=(laws_heldIntS_l0 a0)) (xt:=(laws_heldIntS_l0_X a0)) ?_ ?_ A1 ?_
 ·intro q;rcases q with y5 | ⟨⟩ <;> simp [laws_heldIntS_l0_X]
 ·clear H A1 q
  rintro ⟨x2,x3⟩ o R hf hR
  have H:HS (laws_heldIntS_l0 a0 (x2,x3)) o:=hf
  clear hf;unfold laws_heldIntS_l0 at H
  try simp -implicitDefEqProofs at H
  refine Tr.of_vc (cl:=tabC []) (E:=E0) [] tab_nil hm (by rw [hn];decide +kernel) ?_
  try simp -implicitDefEqProofs (maxSteps:=999999) [-selQ_sel,laws_heldIntS_l0_S]
  refine Hid.brV (fun A2=>?_) (fun A2=>?_)
  ·replace H:=HS.cnd_t A2 H
   try simp -implicitDefEqProofs (maxSteps:=999999) [-selQ_sel,A2]
   have hr:=(HS.some H).symm;subst hr
   exact Hid.mk ⟨(laws_heldIntS_l0_X a0 (.inl x2)).2,Wk.ofk [] hk (by rfl) (by simp -implicitDefEqProofs [laws_heldIntS_l0_X,A2]) (by simp -implicitDefEqProofs [laws_heldIntS_l0_X,A2]),hR⟩
  ·replace H:=HS.cnd_f A2 H
   try simp -implicitDefEqProofs (maxSteps:=999999) [-selQ_sel,A2]
   obtain ⟨v4,A3,H⟩:=HS.bnd H
   try simp -implicitDefEqProofs (maxSteps:=999999) [-selQ_sel,A2,A3]
   refine Hid.brV (fun A4=>?_) (fun A4=>?_)
   ·replace H:=HS.cnd_t A4 H
    try simp -implicitDefEqProofs (maxSteps:=999999) [-selQ_sel,A2,A3,A4]
    have hr:=(HS.some H).symm;subst hr
    exact Hid.mk ⟨laws_heldIntS_l0_S a0 ((IntKind.i64.wrap (x2 + 1)),(IntKind.i64.wrap (x3 + 1))),Wk.ofk [] hk (by rfl) (by simp -implicitDefEqProofs [laws_heldIntS_l0_S,A2,A3,A4]) (by simp -implicitDefEqProofs [laws_heldIntS_l0_S,A2,A3,A4]),hR⟩
   ·replace H:=HS.cnd_f A4 H
    try simp -implicitDefEqProofs (maxSteps:=999999) [-selQ_sel,A2,A3,A4]
    have hr:=(HS.some H).symm;subst hr
    exact Hid.mk ⟨(laws_heldIntS_l0_X a0 (.inr ())).2,Wk.ofk [] hk (by rfl) (by simp -implicitDefEqProofs [laws_heldIntS_l0_X,A2,A3,A4]) (by simp -implicitDefEqProofs [laws_heldIntS_l0_X,A2,A3,A4]),hR⟩
 ·rcases q with y5 | ⟨⟩
  ·dsimp only at H
   try simp -implicitDefEqProofs (maxSteps:=999999) [-selQ_sel,laws_heldIntS_l0_X]
   have hr:=(HS.some H).symm;subst hr
   refine Hid.mk ⟨_,Wk.refl _,?_⟩
   try simp -implicitDefEqProofs (maxSteps:=999999) [-selQ_sel]
  ·dsimp only at H
   try simp -implicitDefEqProofs (maxSteps:=999999) [-selQ_sel,laws_heldIntS_l0_X]
   have hr:=(HS.some H).symm;subst hr
   refine Hid.mk ⟨_,Wk.refl _,?_⟩
   try simp -implicitDefEqProofs (maxSteps:=999999) [-selQ_sel]
theorem impl_NeedOf_ok0 (hm:Try.prog.follows .mixedOrders = true):Sound Try.prog 121 impl_NeedOf_x:=by
 refine xOf_sound fun q r h=>?_
 revert h;revert r;revert q;intro a0 r h
 refine fn_ok E0 hm Try.func121 rfl (by decide +kernel) (by rfl) fun Γ hn hk=>?_
 dsimp only [impl_NeedOf_e,impl_NeedOf_v]
 replace hn:Γ.n = 13:=hn
 replace hk:Γ.k = 0:=hk
 have H:HS (impl_NeedOf a0) r:=h
 clear h;unfold impl_NeedOf at H
 try simp -implicitDefEqProofs at H
 refine Tr.of_vc (cl:=tabC []) (E:=E0) [] tab_nil hm (by rw [hn];decide +kernel) ?_
 try simp -implicitDefEqProofs (maxSteps:=999999) [-selQ_sel]
 refine Hid.brV (fun A1=>?_) (fun A1=>?_)
 ·replace H:=HS.cnd_t A1 H
  try simp -implicitDefEqProofs (maxSteps:=999999) [-selQ_sel,A1]
  have hr:=(HS.some H).symm;subst hr
  refine Hid.mk ⟨_,Wk.refl _,?_⟩
  try simp -implicitDefEqProofs (maxSteps:=999999) [-selQ_sel,A1]
 ·replace H:=HS.cnd_f A1 H
  try simp -implicitDefEqProofs (maxSteps:=999999) [-selQ_sel,A1]
  refine Hid.brV (fun A2=>?_) (fun A2=>?_)
  ·replace H:=HS.cnd_t A2 H
   try simp -implicitDefEqProofs (maxSteps:=999999) [-selQ_sel,A1,A2]
   have hr:=(HS.some H).symm;subst hr
   refine Hid.mk ⟨_,Wk.refl _,?_⟩
   try simp -implicitDefEqProofs (maxSteps:=999999) [-selQ_sel,A1,A2]
  ·replace H:=HS.cnd_f A2 H
   try simp -implicitDefEqProofs (maxSteps:=999999) [-selQ_sel,A1,A2]
   refine Hid.brV (fun A3=>?_) (fun A3=>?_)
   ·replace H:=HS.cnd_t A3 H
    try simp -implicitDefEqProofs (maxSteps:=999999) [-selQ_sel,A1,A2,A3]
    have hr:=(HS.some H).symm;subst hr
    refine Hid.mk ⟨_,Wk.refl _,?_⟩
    try simp -implicitDefEqProofs (maxSteps:=999999) [-selQ_sel,A1,A2,A3]
   ·replace H:=HS.cnd_f A3 H
    try simp -implicitDefEqProofs (maxSteps:=999999) [-selQ_sel,A1,A2,A3]
    refine Hid.brV (fun A4=>?_) (fun A4=>?_)
    ·replace H:=HS.cnd_t A4 H
     try simp -implicitDefEqProofs (maxSteps:=999999) [-selQ_sel,A1,A2,A3,A4]
     have hr:=(HS.some H).symm;subst hr
     refine Hid.mk ⟨_,Wk.refl _,?_⟩
     try simp -implicitDefEqProofs (maxSteps:=999999) [-selQ_sel,A1,A2,A3,A4]
    ·replace H:=HS.cnd_f A4 H
     try simp -implicitDefEqProofs (maxSteps:=999999) [-selQ_sel,A1,A2,A3,A4]
     refine Hid.brV (fun A5=>?_) (fun A5=>?_)
     ·replace H:=HS.cnd_t A5 H
      try simp -implicitDefEqProofs (maxSteps:=999999) [-selQ_sel,A1,A2,A3,A4,A5]
      have hr:=(HS.some H).symm;subst hr
      refine Hid.mk ⟨_,Wk.refl _,?_⟩
      try simp -implicitDefEqProofs (maxSteps:=999999) [-selQ_sel,A1,A2,A3,A4,A5]
     ·replace H:=HS.cnd_f A5 H
      try simp -implicitDefEqProofs (maxSteps:=999999) [-selQ_sel,A1,A2,A3,A4,A5]
      have hr:=(HS.some H).symm;subst hr
      refine Hid.mk ⟨_,Wk.refl _,?_⟩
      try simp -implicitDefEqProofs (maxSteps:=999999) [-selQ_sel,A1,A2,A3,A4,A5]
theorem impl_ColorOk_ok0 (hm:Try.prog.follows .mixedOrders = true) (k_impl_isByte:Sound Try.prog 93 impl_isByte_x):Sound Try.prog 122 impl_ColorOk_x:=by
 refine xOf_sound fun q r h=>?_
 revert h;revert r;revert q;intro a0 r h
 refine fn_ok E0 hm Try.func122 rfl (by decide +kernel) (by rfl) fun Γ hn hk=>?_
 dsimp only [impl_ColorOk_e,impl_ColorOk_v]
 replace hn:Γ.n = 21:=hn
 replace hk:Γ.k = 0:=hk
 have H:HS (impl_ColorOk a0) r:=h
 clear h;unfold impl_ColorOk at H
 try simp -implicitDefEqProofs at H
 refine Tr.of_vc (cl:=tabC [(93,impl_isByte_x)]) (E:=E0) [] (tab_cons k_impl_isByte tab_nil) hm (by rw [hn];decide +kernel) ?_
 try simp -implicitDefEqProofs (maxSteps:=999999) [-selQ_sel]
 obtain ⟨v1,A1,H⟩:=HS.bnd H
 try simp -implicitDefEqProofs (maxSteps:=999999) [-selQ_sel,A1]
 refine Hid.selQ (fun A2=>?_) (fun A2=>?_)
 ·replace H:=HS.cnd_t A2 H
  try simp -implicitDefEqProofs (maxSteps:=999999) [-selQ_sel,A1,A2]
  obtain ⟨v2,A3,H⟩:=HS.bnd H
  try simp -implicitDefEqProofs (maxSteps:=999999) [-selQ_sel,A1,A2,A3]
  refine Hid.selQ (fun A4=>?_) (fun A4=>?_)
  ·replace H:=HS.cnd_t A4 H
   try simp -implicitDefEqProofs (maxSteps:=999999) [-selQ_sel,A1,A2,A3,A4]
   obtain ⟨v3,A5,H⟩:=HS.bnd H
   try simp -implicitDefEqProofs (maxSteps:=999999) [-selQ_sel,A1,A2,A3,A4,A5]
   refine Hid.selQ (fun A6=>?_) (fun A6=>?_)
   ·replace H:=HS.cnd_t A6 H
    try simp -implicitDefEqProofs (maxSteps:=999999) [-selQ_sel,A1,A2,A3,A4,A5,A6]
    obtain ⟨v4,A7,H⟩:=HS.bnd H
    try simp -implicitDefEqProofs (maxSteps:=999999) [-selQ_sel,A1,A2,A3,A4,A5,A6,A7]
    have hr:=(HS.some H).symm;subst hr
    refine Hid.mk ⟨_,Wk.refl _,?_⟩
    try simp -implicitDefEqProofs (maxSteps:=999999) [-selQ_sel,A1,A2,A3,A4,A5,A6,A7]
   ·replace H:=HS.cnd_f A6 H
    try simp -implicitDefEqProofs (maxSteps:=999999) [-selQ_sel,A1,A2,A3,A4,A5,A6]
    have hr:=(HS.some H).symm;subst hr
    refine Hid.mk ⟨_,Wk.refl _,?_⟩
    try simp -implicitDefEqProofs (maxSteps:=999999) [-selQ_sel,A1,A2,A3,A4,A5,A6]
  ·replace H:=HS.cnd_f A4 H
   try simp -implicitDefEqProofs (maxSteps:=999999) [-selQ_sel,A1,A2,A3,A4]
   have hr:=(HS.some H).symm;subst hr
   refine Hid.mk ⟨_,Wk.refl _,?_⟩
   try simp -implicitDefEqProofs (maxSteps:=999999) [-selQ_sel,A1,A2,A3,A4]
 ·replace H:=HS.cnd_f A2 H
  try simp -implicitDefEqProofs (maxSteps:=999999) [-selQ_sel,A1,A2]
  have hr:=(HS.some H).symm;subst hr
  refine Hid.mk ⟨_,Wk.refl _,?_⟩
  try simp -implicitDefEqProofs (maxSteps:=999999) [-selQ_sel,A1,A2]
theorem laws_szNode_ok0 (hm:Try.prog.follows .mixedOrders = true) (k_laws_szPath:Sound Try.prog 55 laws_szPath_x) (k_laws_szIntS:Sound Try.prog 56 laws_szIntS_x):Sound Try.prog 17 laws_szNode_x:=by
 refine xOf_sound fun q r h=>?_
 obtain ⟨a0,a1⟩:=q
 refine fn_ok E0 hm Try.func17 rfl (by decide +kernel) (by rfl) fun Γ hn hk=>?_
 dsimp only [laws_szNode_e,laws_szNode_v]
 replace hn:Γ.n = 24:=hn
 replace hk:Γ.k = 0:=hk
 have H:HS (laws_szNode a0 a1) r:=h
 clear h;unfold laws_szNode at H
 try simp -implicitDefEqProofs at H
 refine Tr.of_vc (cl:=tabC [(55,laws_szPath_x),(56,laws_szIntS_x)]) (E:=E0) [] (tab_cons k_laws_szPath (tab_cons k_laws_szIntS tab_nil)) hm (by rw [hn];decide +kernel) ?_
 try simp -implicitDefEqProofs (maxSteps:=999999) [-selQ_sel]
 obtain ⟨v1,A1,H⟩:=HS.bnd H
 try simp -implicitDefEqProofs (maxSteps:=999999) [-selQ_sel,A1]
 refine Hid.brV (fun A2=>?_) (fun A2=>?_)
 ·replace H:=HS.cnd_t A2 H
  try simp -implicitDefEqProofs (maxSteps:=999999) [-selQ_sel,A1,A2]
  obtain ⟨v2,A3,H⟩:=HS.bnd H
  try simp -implicitDefEqProofs (maxSteps:=999999) [-selQ_sel,A1,A2,A3]
  refine Hid.brV (fun A4=>?_) (fun A4=>?_)
  ·replace H:=HS.cnd_t A4 H
   try simp -implicitDefEqProofs (maxSteps:=999999) [-selQ_sel,A1,A2,A3,A4]
   obtain ⟨v3,A5,H⟩:=HS.bnd H
   try simp -implicitDefEqProofs (maxSteps:=999999) [-selQ_sel,A1,A2,A3,A4,A5]
   refine Hid.brV (fun A6=>?_) (fun A6=>?_)
   ·replace H:=HS.cnd_t A6 H
    try simp -implicitDefEqProofs (maxSteps:=999999) [-selQ_sel,A1,A2,A3,A4,A5,A6]
    have hr:=(HS.some H).symm;subst hr
    refine Hid.mk ⟨_,Wk.refl _,?_⟩
    try simp -implicitDefEqProofs (maxSteps:=999999) [-selQ_sel,A1,A2,A3,A4,A5,A6]
   ·replace H:=HS.cnd_f A6 H
    try simp -implicitDefEqProofs (maxSteps:=999999) [-selQ_sel,A1,A2,A3,A4,A5,A6]
    have hr:=(HS.some H).symm;subst hr
    refine Hid.mk ⟨_,Wk.refl _,?_⟩
    try simp -implicitDefEqProofs (maxSteps:=999999) [-selQ_sel,A1,A2,A3,A4,A5,A6]
  ·replace H:=HS.cnd_f A4 H
   try simp -implicitDefEqProofs (maxSteps:=999999) [-selQ_sel,A1,A2,A3,A4]
   have hr:=(HS.some H).symm;subst hr
   refine Hid.mk ⟨_,Wk.refl _,?_⟩
   try simp -implicitDefEqProofs (maxSteps:=999999) [-selQ_sel,A1,A2,A3,A4]
 ·replace H:=HS.cnd_f A2 H
  try simp -implicitDefEqProofs (maxSteps:=999999) [-selQ_sel,A1,A2]
  have hr:=(HS.some H).symm;subst hr
  refine Hid.mk ⟨_,Wk.refl _,?_⟩
  try simp -implicitDefEqProofs (maxSteps:=999999) [-selQ_sel,A1,A2]
theorem laws_szPath_ok0 (hm:Try.prog.follows .mixedOrders = true) (k_laws_szIntS:Sound Try.prog 56 laws_szIntS_x) (k_laws_szPointS:Sound Try.prog 97 laws_szPointS_x):Sound Try.prog 55 laws_szPath_x:=by
 refine xOf_sound fun q r h=>?_
 obtain ⟨a0,a1⟩:=q
 refine fn_ok E0 hm Try.func55 rfl (by decide +kernel) (by rfl) fun Γ hn hk=>?_
 dsimp only [laws_szPath_e,laws_szPath_v]
 replace hn:Γ.n = 18:=hn
 replace hk:Γ.k = 0:=hk
 have H:HS (laws_szPath a0 a1) r:=h
 clear h;unfold laws_szPath at H
 try simp -implicitDefEqProofs at H
 refine Tr.of_vc (cl:=tabC [(56,laws_szIntS_x),(97,laws_szPointS_x)]) (E:=E0) [] (tab_cons k_laws_szIntS (tab_cons k_laws_szPointS tab_nil)) hm (by rw [hn];decide +kernel) ?_
 try simp -implicitDefEqProofs (maxSteps:=999999) [-selQ_sel]
 obtain ⟨v1,A1,H⟩:=HS.bnd H
 try simp -implicitDefEqProofs (maxSteps:=999999) [-selQ_sel,A1]
 refine Hid.brV (fun A2=>?_) (fun A2=>?_)
 ·replace H:=HS.cnd_t A2 H
  try simp -implicitDefEqProofs (maxSteps:=999999) [-selQ_sel,A1,A2]
  obtain ⟨v2,A3,H⟩:=HS.bnd H
  try simp -implicitDefEqProofs (maxSteps:=999999) [-selQ_sel,A1,A2,A3]
  refine Hid.brV (fun A4=>?_) (fun A4=>?_)
  ·replace H:=HS.cnd_t A4 H
   try simp -implicitDefEqProofs (maxSteps:=999999) [-selQ_sel,A1,A2,A3,A4]
   have hr:=(HS.some H).symm;subst hr
   refine Hid.mk ⟨_,Wk.refl _,?_⟩
   try simp -implicitDefEqProofs (maxSteps:=999999) [-selQ_sel,A1,A2,A3,A4]
  ·replace H:=HS.cnd_f A4 H
   try simp -implicitDefEqProofs (maxSteps:=999999) [-selQ_sel,A1,A2,A3,A4]
   have hr:=(HS.some H).symm;subst hr
   refine Hid.mk ⟨_,Wk.refl _,?_⟩
   try simp -implicitDefEqProofs (maxSteps:=999999) [-selQ_sel,A1,A2,A3,A4]
 ·replace H:=HS.cnd_f A2 H
  try simp -implicitDefEqProofs (maxSteps:=999999) [-selQ_sel,A1,A2]
  have hr:=(HS.some H).symm;subst hr
  refine Hid.mk ⟨_,Wk.refl _,?_⟩
  try simp -implicitDefEqProofs (maxSteps:=999999) [-selQ_sel,A1,A2]
theorem slices_Clone_Point_ok0 (hm:Try.prog.follows .mixedOrders = true):Sound Try.prog 127 slices_Clone_Point_x:=by
 refine xOf_sound fun q r h=>?_
 revert h;revert r;revert q;intro a0 r h
 refine fn_ok E0 hm Try.func127 rfl (by decide +kernel) (by rfl) fun Γ hn hk=>?_
 dsimp only [slices_Clone_Point_e,slices_Clone_Point_v]
 replace hn:Γ.n = 8:=hn
 replace hk:Γ.k = 0:=hk
 have H:HS (slices_Clone_Point a0) r:=h
 clear h;unfold slices_Clone_Point at H
 obtain ⟨A1,H⟩:=HS.chkP H
 have hr:=(HS.some H).symm;subst hr
 refine Tr.of_vc (cl:=tabC []) (E:=E0) [1] tab_nil hm (by rw [hn];decide +kernel) ?_
 simp -implicitDefEqProofs [-selQ_sel]
 refine Hid.mk (Tr_nil (E:=E0) tab_nil (h1:=rfl) (hd1:=fun d h=>by cases h;rw [hn];decide) (ho:=rfl) (hg:=rfl) (hd:=rfl) (hdn:=by rw [hn];decide) (hu:=elt_37) (hx:=rfl) fun b hb=>?_)
 refine Tr.of_vc (cl:=tabC []) (E:=E0) [] tab_nil hm (by rw [hn];decide +kernel) ?_
 simp -implicitDefEqProofs [-selQ_sel,aft,putT]
 refine Hid.brV (fun A2=>?_) (fun A2=>?_)
 ·simp -implicitDefEqProofs [-selQ_sel]
  have A3:=hb A2;simp at A3;subst A3
  refine Hid.mk ⟨_,Wk.refl _,?_⟩
  simp -implicitDefEqProofs [-selQ_sel,A1]
  refine ⟨⟨[(2,AV.osl 0 0 0 0)],[(0,Ob.arr 2 (List.map ePoint []) false)],1⟩,Wk.ofk [0] hk (by rfl) (by simp -implicitDefEqProofs) (by simp -implicitDefEqProofs),?_⟩
  simp -implicitDefEqProofs [-selQ_sel,A1]
 ·simp -implicitDefEqProofs [-selQ_sel]
  refine Hid.mk ⟨_,Wk.refl _,?_⟩
  simp -implicitDefEqProofs [-selQ_sel,A1]
  refine ⟨⟨[(2,AV.osl 0 0 (List.length a0) (List.length a0))],[(0,Ob.arr 2 (List.map ePoint a0) false)],1⟩,Wk.ofk [0] hk (by rfl) (by simp -implicitDefEqProofs) (by simp -implicitDefEqProofs),?_⟩
  simp -implicitDefEqProofs [-selQ_sel,A1]
theorem impl_copyPath_ok0 (hm:Try.prog.follows .mixedOrders = true) (k_slices_Clone_int:Sound Try.prog 108 slices_Clone_int_x) (k_slices_Clone_Point:Sound Try.prog 127 slices_Clone_Point_x):Sound Try.prog 107 impl_copyPath_x:=by
 refine xOf_sound fun q r h=>?_
 revert h;revert r;revert q;intro a0 r h
 refine fn_ok E0 hm Try.func107 rfl (by decide +kernel) (by rfl) fun Γ hn hk=>?_
 dsimp only [impl_copyPath_e,impl_copyPath_v]
 replace hn:Γ.n = 10:=hn
 replace hk:Γ.k = 0:=hk
 have H:HS (impl_copyPath a0) r:=h
 clear h;unfold impl_copyPath at H
 try simp -implicitDefEqProofs at H
 refine Tr.of_vc (cl:=tabC [(108,slices_Clone_int_x),(127,slices_Clone_Point_x)]) (E:=E0) [] (tab_cons k_slices_Clone_int (tab_cons k_slices_Clone_Point tab_nil)) hm (by rw [hn];decide +kernel) ?_
 try simp -implicitDefEqProofs +decide (maxSteps:=999999) [-selQ_sel,hokQ_of]
 obtain ⟨v1,A1,H⟩:=HS.bnd H
 try simp -implicitDefEqProofs +decide (maxSteps:=999999) [-selQ_sel,hokQ_of,A1]
 obtain ⟨v2,A2,H⟩:=HS.bnd H
 try simp -implicitDefEqProofs +decide (maxSteps:=999999) [-selQ_sel,hokQ_of,A1,A2]
 have hr:=(HS.some H).symm;subst hr
 refine Hid.mk ⟨⟨[(2,AV.optr 0 0 2)],[(0,Ob.box [AV.osl 1 0 (List.length v1) (List.length v1),AV.osl 2 0 (List.length v2) (List.length v2)]),(1,Ob.arr 1 (List.map (AV.int .i64) v1) false),(2,Ob.arr 2 (List.map ePoint v2) false)],3⟩,Wk.ofk [1,2,3] hk (by rfl) (by simp -implicitDefEqProofs [A1,A2]) (by simp -implicitDefEqProofs [A1,A2]),?_⟩
 try simp -implicitDefEqProofs +decide (maxSteps:=999999) [-selQ_sel,hokQ_of,A1,A2]
theorem impl_PointOk_ok0 (hm:Try.prog.follows .mixedOrders = true) (k_impl_isFar:Sound Try.prog 119 impl_isFar_x):Sound Try.prog 123 impl_PointOk_x:=by
 refine xOf_sound fun q r h=>?_
 revert h;revert r;revert q;intro a0 r h
 refine fn_ok E0 hm Try.func123 rfl (by decide +kernel) (by rfl) fun Γ hn hk=>?_
 dsimp only [impl_PointOk_e,impl_PointOk_v]
 replace hn:Γ.n = 11:=hn
 replace hk:Γ.k = 0:=hk
 have H:HS (impl_PointOk a0) r:=h
 clear h;unfold impl_PointOk at H
 try simp -implicitDefEqProofs at H
 refine Tr.of_vc (cl:=tabC [(119,impl_isFar_x)]) (E:=E0) [] (tab_cons k_impl_isFar tab_nil) hm (by rw [hn];decide +kernel) ?_
 try simp -implicitDefEqProofs (maxSteps:=999999) [-selQ_sel]
 obtain ⟨v1,A1,H⟩:=HS.bnd H
 try simp -implicitDefEqProofs (maxSteps:=999999) [-selQ_sel,A1]
 refine Hid.selQ (fun A2=>?_) (fun A2=>?_)
 ·replace H:=HS.cnd_t A2 H
  try simp -implicitDefEqProofs (maxSteps:=999999) [-selQ_sel,A1,A2]
  obtain ⟨v2,A3,H⟩:=HS.bnd H
  try simp -implicitDefEqProofs (maxSteps:=999999) [-selQ_sel,A1,A2,A3]
  have hr:=(HS.some H).symm;subst hr
  refine Hid.mk ⟨_,Wk.refl _,?_⟩
  try simp -implicitDefEqProofs (maxSteps:=999999) [-selQ_sel,A1,A2,A3]
 ·replace H:=HS.cnd_f A2 H
  try simp -implicitDefEqProofs (maxSteps:=999999) [-selQ_sel,A1,A2]
  have hr:=(HS.some H).symm;subst hr
  refine Hid.mk ⟨_,Wk.refl _,?_⟩
  try simp -implicitDefEqProofs (maxSteps:=999999) [-selQ_sel,A1,A2]
theorem laws_toPaint_ok0 (hm:Try.prog.follows .mixedOrders = true) (k_laws_toColor:Sound Try.prog 105 laws_toColor_x) (k_laws_toPoint:Sound Try.prog 106 laws_toPoint_x):Sound Try.prog 63 laws_toPaint_x:=by
 refine xOf_sound fun q r h=>?_
 revert h;revert r;revert q;intro a0 r h
 refine fn_ok E0 hm Try.func63 rfl (by decide +kernel) (by rfl) fun Γ hn hk=>?_
 dsimp only [laws_toPaint_e,laws_toPaint_v]
 replace hn:Γ.n = 24:=hn
 replace hk:Γ.k = 0:=hk
 have H:HS (laws_toPaint a0) r:=h
 clear h;unfold laws_toPaint at H
 try simp -implicitDefEqProofs at H
 refine Tr.of_vc (cl:=tabC [(105,laws_toColor_x),(106,laws_toPoint_x)]) (E:=E0) [] (tab_cons k_laws_toColor (tab_cons k_laws_toPoint tab_nil)) hm (by rw [hn];decide +kernel) ?_
 try simp -implicitDefEqProofs (maxSteps:=999999) [-selQ_sel]
 obtain ⟨v1,A1,H⟩:=HS.bnd H
 try simp -implicitDefEqProofs (maxSteps:=999999) [-selQ_sel,A1]
 obtain ⟨v2,A2,H⟩:=HS.bnd H
 try simp -implicitDefEqProofs (maxSteps:=999999) [-selQ_sel,A1,A2]
 obtain ⟨v3,A3,H⟩:=HS.bnd H
 try simp -implicitDefEqProofs (maxSteps:=999999) [-selQ_sel,A1,A2,A3]
 obtain ⟨v4,A4,H⟩:=HS.bnd H
 try simp -implicitDefEqProofs (maxSteps:=999999) [-selQ_sel,A1,A2,A3,A4]
 have hr:=(HS.some H).symm;subst hr
 refine Hid.mk ⟨_,Wk.refl _,?_⟩
 try simp -implicitDefEqProofs (maxSteps:=999999) [-selQ_sel,A1,A2,A3,A4]
theorem laws_eqScene_ok0 (hm:Try.prog.follows .mixedOrders = true) (k_laws_eqNodeS:Sound Try.prog 65 laws_eqNodeS_x):Sound Try.prog 22 laws_eqScene_x:=by
 refine xOf_sound fun q r h=>?_
 obtain ⟨a0,a1⟩:=q
 refine fn_ok E0 hm Try.func22 rfl (by decide +kernel) (by rfl) fun Γ hn hk=>?_
 dsimp only [laws_eqScene_e,laws_eqScene_v]
 replace hn:Γ.n = 11:=hn
 replace hk:Γ.k = 0:=hk
 have H:HS (laws_eqScene a0 a1) r:=h
 clear h;unfold laws_eqScene at H
 try simp -implicitDefEqProofs at H
 refine Tr.of_vc (cl:=tabC [(65,laws_eqNodeS_x)]) (E:=E0) [] (tab_cons k_laws_eqNodeS tab_nil) hm (by rw [hn];decide +kernel) ?_
 try simp -implicitDefEqProofs (maxSteps:=999999) [-selQ_sel]
 obtain ⟨v1,A1,H⟩:=HS.bnd H
 try simp -implicitDefEqProofs (maxSteps:=999999) [-selQ_sel,A1]
 refine Hid.brV (fun A2=>?_) (fun A2=>?_)
 ·replace H:=HS.cnd_t A2 H
  try simp -implicitDefEqProofs (maxSteps:=999999) [-selQ_sel,A1,A2]
  have hr:=(HS.some H).symm;subst hr
  refine Hid.mk ⟨_,Wk.refl _,?_⟩
  try simp -implicitDefEqProofs (maxSteps:=999999) [-selQ_sel,A1,A2]
 ·replace H:=HS.cnd_f A2 H
  try simp -implicitDefEqProofs (maxSteps:=999999) [-selQ_sel,A1,A2]
  have hr:=(HS.some H).symm;subst hr
  refine Hid.mk ⟨_,Wk.refl _,?_⟩
  try simp -implicitDefEqProofs (maxSteps:=999999) [-selQ_sel,A1,A2]
theorem spec_l15NoPath_ok0 (hm:Try.prog.follows .mixedOrders = true):Sound Try.prog 101 spec_l15NoPath_x:=by
 refine xOf_sound fun q r h=>?_
 revert h;revert r;revert q;intro a0 r h
 refine fn_ok E0 hm Try.func101 rfl (by decide +kernel) (by rfl) fun Γ hn hk=>?_
 dsimp only [spec_l15NoPath_e,spec_l15NoPath_v]
 replace hn:Γ.n = 13:=hn
 replace hk:Γ.k = 0:=hk
 have H:HS (spec_l15NoPath a0) r:=h
 clear h;unfold spec_l15NoPath at H
 try simp -implicitDefEqProofs at H
 refine Tr.of_vc (cl:=tabC []) (E:=E0) [] tab_nil hm (by rw [hn];decide +kernel) ?_
 try simp -implicitDefEqProofs (maxSteps:=999999) [-selQ_sel]
 refine Hid.selQ (fun A1=>?_) (fun A1=>?_)
 ·replace H:=HS.cnd_t A1 H
  try simp -implicitDefEqProofs (maxSteps:=999999) [-selQ_sel,A1]
  have hr:=(HS.some H).symm;subst hr
  refine Hid.mk ⟨_,Wk.refl _,?_⟩
  try simp -implicitDefEqProofs (maxSteps:=999999) [-selQ_sel,A1]
 ·replace H:=HS.cnd_f A1 H
  try simp -implicitDefEqProofs (maxSteps:=999999) [-selQ_sel,A1]
  have hr:=(HS.some H).symm;subst hr
  refine Hid.mk ⟨_,Wk.refl _,?_⟩
  try simp -implicitDefEqProofs (maxSteps:=999999) [-selQ_sel,A1]
theorem spec_l01In_ok0 (hm:Try.prog.follows .mixedOrders = true):Sound Try.prog 87 spec_l01In_x:=by
 refine xOf_sound fun q r h=>?_
 obtain ⟨a0,a1,a2⟩:=q
 refine fn_ok E0 hm Try.func87 rfl (by decide +kernel) (by rfl) fun Γ hn hk=>?_
 dsimp only [spec_l01In_e,spec_l01In_v]
 replace hn:Γ.n = 15:=hn
 replace hk:Γ.k = 0:=hk
 have H:HS (spec_l01In a0 a1 a2) r:=h
 clear h;unfold spec_l01In at H
 try simp -implicitDefEqProofs at H
 refine Tr.of_vc (cl:=tabC []) (E:=E0) [] tab_nil hm (by rw [hn];decide +kernel) ?_
 try simp -implicitDefEqProofs (maxSteps:=999999) [-selQ_sel]
 refine Hid.selQ (fun A1=>?_) (fun A1=>?_)
 ·replace H:=HS.cnd_t A1 H
  try simp -implicitDefEqProofs (maxSteps:=999999) [-selQ_sel,A1]
  have hr:=(HS.some H).symm;subst hr
  refine Hid.mk ⟨_,Wk.refl _,?_⟩
  try simp -implicitDefEqProofs (maxSteps:=999999) [-selQ_sel,A1]
 ·replace H:=HS.cnd_f A1 H
  try simp -implicitDefEqProofs (maxSteps:=999999) [-selQ_sel,A1]
  have hr:=(HS.some H).symm;subst hr
  refine Hid.mk ⟨_,Wk.refl _,?_⟩
  try simp -implicitDefEqProofs (maxSteps:=999999) [-selQ_sel,A1]
theorem laws_markScene_ok0 (hm:Try.prog.follows .mixedOrders = true) (k_laws_markNodeS:Sound Try.prog 70 laws_markNodeS_x):Sound Try.prog 24 laws_markScene_x:=by
 refine xOf_sound fun q r h=>?_
 obtain ⟨a0,a1⟩:=q
 refine fn_ok E0 hm Try.func24 rfl (by decide +kernel) (by rfl) fun Γ hn hk=>?_
 dsimp only [laws_markScene_e,laws_markScene_v]
 replace hn:Γ.n = 10:=hn
 replace hk:Γ.k = 1:=hk
 have H:HS (laws_markScene a0 a1) r:=h
 clear h;unfold laws_markScene at H
 try simp -implicitDefEqProofs at H
 refine Tr.of_vc (cl:=tabC [(70,laws_markNodeS_x)]) (E:=E0) [] (tab_cons k_laws_markNodeS tab_nil) hm (by rw [hn];decide +kernel) ?_
 try simp -implicitDefEqProofs (maxSteps:=999999) [-selQ_sel]
 obtain ⟨⟨w2,w3⟩,A1,H⟩:=HS.bnd H
 dsimp only at H
 have B2:=laws_markNodeS_n A1
 try simp -implicitDefEqProofs (maxSteps:=999999) [-selQ_sel,A1,B2]
 have hr:=(HS.some H).symm;subst hr
 refine Hid.mk ⟨_,Wk.refl _,?_⟩
 try simp -implicitDefEqProofs (maxSteps:=999999) [-selQ_sel,A1,B2]
theorem impl_isMode_ok0 (hm:Try.prog.follows .mixedOrders = true) (k_impl_inRange:Sound Try.prog 41 impl_inRange_x):Sound Try.prog 92 impl_isMode_x:=by
 refine xOf_sound fun q r h=>?_
 revert h;revert r;revert q;intro a0 r h
 refine fn_ok E0 hm Try.func92 rfl (by decide +kernel) (by rfl) fun Γ hn hk=>?_
 dsimp only [impl_isMode_e,impl_isMode_v]
 replace hn:Γ.n = 5:=hn
 replace hk:Γ.k = 0:=hk
 have H:HS (impl_isMode a0) r:=h
 clear h;unfold impl_isMode at H
 try simp -implicitDefEqProofs at H
 refine Tr.of_vc (cl:=tabC [(41,impl_inRange_x)]) (E:=E0) [] (tab_cons k_impl_inRange tab_nil) hm (by rw [hn];decide +kernel) ?_
 try simp -implicitDefEqProofs (maxSteps:=999999) [-selQ_sel]
 obtain ⟨v1,A1,H⟩:=HS.bnd H
 try simp -implicitDefEqProofs (maxSteps:=999999) [-selQ_sel,A1]
 have hr:=(HS.some H).symm;subst hr
 refine Hid.mk ⟨_,Wk.refl _,?_⟩
 try simp -implicitDefEqProofs (maxSteps:=999999) [-selQ_sel,A1]
theorem impl_isFar_ok0 (hm:Try.prog.follows .mixedOrders = true) (k_impl_inRange:Sound Try.prog 41 impl_inRange_x):Sound Try.prog 119 impl_isFar_x:=by
 refine xOf_sound fun q r h=>?_
 revert h;revert r;revert q;intro a0 r h
 refine fn_ok E0 hm Try.func119 rfl (by decide +kernel) (by rfl) fun Γ hn hk=>?_
 dsimp only [impl_isFar_e,impl_isFar_v]
 replace hn:Γ.n = 5:=hn
 replace hk:Γ.k = 0:=hk
 have H:HS (impl_isFar a0) r:=h
 clear h;unfold impl_isFar at H
 try simp -implicitDefEqProofs at H
 refine Tr.of_vc (cl:=tabC [(41,impl_inRange_x)]) (E:=E0) [] (tab_cons k_impl_inRange tab_nil) hm (by rw [hn];decide +kernel) ?_
 try simp -implicitDefEqProofs (maxSteps:=999999) [-selQ_sel]
 obtain ⟨v1,A1,H⟩:=HS.bnd H
 try simp -implicitDefEqProofs (maxSteps:=999999) [-selQ_sel,A1]
 have hr:=(HS.some H).symm;subst hr
 refine Hid.mk ⟨_,Wk.refl _,?_⟩
 try simp -implicitDefEqProofs (maxSteps:=999999) [-selQ_sel,A1]
theorem impl_NodeAt_1_ok0 (hm:Try.prog.follows .mixedOrders = true):Sound Try.prog 49 impl_NodeAt_1_x:=by
 refine xOf_sound fun q r h=>?_
 obtain ⟨a0,a1⟩:=q
 refine fn_ok E0 hm Try.func49 rfl (by decide +kernel) (by rfl) fun Γ hn hk=>?_
 dsimp only [impl_NodeAt_1_e,impl_NodeAt_1_v]
 replace hn:Γ.n = 8:=hn
 replace hk:Γ.k = 0:=hk
 have H:HS (impl_NodeAt_1 a0 a1) r:=h
 clear h;unfold impl_NodeAt_1 at H
 try simp -implicitDefEqProofs at H
 refine Tr.of_vc (cl:=tabC []) (E:=E0) [] tab_nil hm (by rw [hn];decide +kernel) ?_
 try simp -implicitDefEqProofs (maxSteps:=999999) [-selQ_sel]
 have hr:=(HS.some H).symm;subst hr
 refine Hid.mk ⟨_,Wk.refl _,?_⟩
 try simp -implicitDefEqProofs (maxSteps:=999999) [-selQ_sel]
end Go.Proofs.Ytapchldnmkfkoab.Am
