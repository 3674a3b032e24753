import Derived.Test.YtapchldnmkfkoabAmDnNa
set_option linter.unusedVariables false
set_option linter.unusedSimpArgs false
set_option linter.unusedSectionVars false
namespace Go.Proofs.Ytapchldnmkfkoab.Am
open Go Go.Proofs
set_option maxRecDepth 100000
set_option linter.unusedSimpArgs false
set_option linter.unusedVariables false
set_option maxHeartbeats 4000000
theorem spec_NodeOk_ok0 (hm : Try.prog.follows .mixedOrders = true) (k_spec_l01In : Sound Try.prog 87 spec_l01In_x) (k_spec_MatOk : Sound Try.prog 98 spec_MatOk_x) (k_spec_PathOk : Sound Try.prog 99 spec_PathOk_x) (k_spec_DashOk : Sound Try.prog 100 spec_DashOk_x) (k_spec_l15NoPath : Sound Try.prog 101 spec_l15NoPath_x) (k_spec_l15NoPaint : Sound Try.prog 102 spec_l15NoPaint_x) (k_spec_PaintOk : Sound Try.prog 103 spec_PaintOk_x) : Sound Try.prog 57 spec_NodeOk_x := by
 refine xOf_sound fun q r h => ?_
 revert h; revert r; revert q; intro a0 r h
 refine fn_ok E0 hm Try.func57 rfl (by decide +kernel) (by rfl) fun Γ hn hk => ?_
 dsimp only [spec_NodeOk_e,spec_NodeOk_v]
 replace hn : Γ.n = 91 := hn
 replace hk : Γ.k = 0 := hk
 have H : HS (spec_NodeOk a0) r := h
 clear h; unfold spec_NodeOk at H
 try simp -implicitDefEqProofs at H
 refine Tr.of_vc (cl := tabC [(87,spec_l01In_x),(98,spec_MatOk_x),(99,spec_PathOk_x),(100,spec_DashOk_x),(101,spec_l15NoPath_x),(102,spec_l15NoPaint_x),(103,spec_PaintOk_x)]) (E := E0) [] (tab_cons k_spec_l01In (tab_cons k_spec_MatOk (tab_cons k_spec_PathOk (tab_cons k_spec_DashOk (tab_cons k_spec_l15NoPath (tab_cons k_spec_l15NoPaint (tab_cons k_spec_PaintOk tab_nil))))))) hm (by rw [hn]; decide +kernel) ?_
 try simp -implicitDefEqProofs (maxSteps := 999999) [-selQ_sel]
 obtain ⟨v1,h_1,H⟩ := HS.bnd H
 try simp -implicitDefEqProofs (maxSteps := 999999) [-selQ_sel,h_1]
 refine Hid.selQ (fun h_2 => ?_) (fun h_2 => ?_)
 ·replace H := HS.cnd_t h_2 H
  try simp -implicitDefEqProofs (maxSteps := 999999) [-selQ_sel,h_1,h_2]
  obtain ⟨v2,h_3,H⟩ := HS.bnd H
  try simp -implicitDefEqProofs (maxSteps := 999999) [-selQ_sel,h_1,h_2,h_3]
  refine Hid.selQ (fun h_4 => ?_) (fun h_4 => ?_)
  ·replace H := HS.cnd_t h_4 H
   try simp -implicitDefEqProofs (maxSteps := 999999) [-selQ_sel,h_1,h_2,h_3,h_4]
   refine Hid.selQ (fun h_5 => ?_) (fun h_5 => ?_)
   ·replace H := HS.cnd_t h_5 H
    try simp -implicitDefEqProofs (maxSteps := 999999) [-selQ_sel,h_1,h_2,h_3,h_4,h_5]
    have hr := (HS.some H).symm; subst hr
    refine Hid.mk ⟨_,Wk.refl _,?_⟩
    try simp -implicitDefEqProofs (maxSteps := 999999) [-selQ_sel,h_1,h_2,h_3,h_4,h_5]
   ·replace H := HS.cnd_f h_5 H
    try simp -implicitDefEqProofs (maxSteps := 999999) [-selQ_sel,h_1,h_2,h_3,h_4,h_5]
    obtain ⟨v3,h_6,H⟩ := HS.bnd H
    try simp -implicitDefEqProofs (maxSteps := 999999) [-selQ_sel,h_1,h_2,h_3,h_4,h_5,h_6]
    refine Hid.selQ (fun h_7 => ?_) (fun h_7 => ?_)
    ·replace H := HS.cnd_t h_7 H
     try simp -implicitDefEqProofs (maxSteps := 999999) [-selQ_sel,h_1,h_2,h_3,h_4,h_5,h_6,h_7]
     obtain ⟨v4,h_8,H⟩ := HS.bnd H
     try simp -implicitDefEqProofs (maxSteps := 999999) [-selQ_sel,h_1,h_2,h_3,h_4,h_5,h_6,h_7,h_8]
     refine Hid.selQ (fun h_9 => ?_) (fun h_9 => ?_)
     ·replace H := HS.cnd_t h_9 H
      try simp -implicitDefEqProofs (maxSteps := 999999) [-selQ_sel,h_1,h_2,h_3,h_4,h_5,h_6,h_7,h_8,h_9]
      obtain ⟨v5,h_10,H⟩ := HS.bnd H
      try simp -implicitDefEqProofs (maxSteps := 999999) [-selQ_sel,h_1,h_2,h_3,h_4,h_5,h_6,h_7,h_8,h_9,h_10]
      refine Hid.selQ (fun h_11 => ?_) (fun h_11 => ?_)
      ·replace H := HS.cnd_t h_11 H
       try simp -implicitDefEqProofs (maxSteps := 999999) [-selQ_sel,h_1,h_2,h_3,h_4,h_5,h_6,h_7,h_8,h_9,h_10,h_11]
       obtain ⟨v6,h_12,H⟩ := HS.bnd H
       try simp -implicitDefEqProofs (maxSteps := 999999) [-selQ_sel,h_1,h_2,h_3,h_4,h_5,h_6,h_7,h_8,h_9,h_10,h_11,h_12]
       refine Hid.selQ (fun h_13 => ?_) (fun h_13 => ?_)
       ·replace H := HS.cnd_t h_13 H
        try simp -implicitDefEqProofs (maxSteps := 999999) [-selQ_sel,h_1,h_2,h_3,h_4,h_5,h_6,h_7,h_8,h_9,h_10,h_11,h_12,h_13]
        obtain ⟨v7,h_14,H⟩ := HS.bnd H
        try simp -implicitDefEqProofs (maxSteps := 999999) [-selQ_sel,h_1,h_2,h_3,h_4,h_5,h_6,h_7,h_8,h_9,h_10,h_11,h_12,h_13,h_14]
        refine Hid.selQ (fun h_15 => ?_) (fun h_15 => ?_)
        ·replace H := HS.cnd_t h_15 H
         try simp -implicitDefEqProofs (maxSteps := 999999) [-selQ_sel,h_1,h_2,h_3,h_4,h_5,h_6,h_7,h_8,h_9,h_10,h_11,h_12,h_13,h_14,h_15]
         obtain ⟨v8,h_16,H⟩ := HS.bnd H
         try simp -implicitDefEqProofs (maxSteps := 999999) [-selQ_sel,h_1,h_2,h_3,h_4,h_5,h_6,h_7,h_8,h_9,h_10,h_11,h_12,h_13,h_14,h_15,h_16]
         refine Hid.selQ (fun h_17 => ?_) (fun h_17 => ?_)
         ·replace H := HS.cnd_t h_17 H
          try simp -implicitDefEqProofs (maxSteps := 999999) [-selQ_sel,h_1,h_2,h_3,h_4,h_5,h_6,h_7,h_8,h_9,h_10,h_11,h_12,h_13,h_14,h_15,h_16,h_17]
          obtain ⟨v9,h_18,H⟩ := HS.bnd H
          try simp -implicitDefEqProofs (maxSteps := 999999) [-selQ_sel,h_1,h_2,h_3,h_4,h_5,h_6,h_7,h_8,h_9,h_10,h_11,h_12,h_13,h_14,h_15,h_16,h_17,h_18]
          refine Hid.brV (fun h_19 => ?_) (fun h_19 => ?_)
          ·replace H := HS.cnd_t h_19 H
           try simp -implicitDefEqProofs (maxSteps := 999999) [-selQ_sel,h_1,h_2,h_3,h_4,h_5,h_6,h_7,h_8,h_9,h_10,h_11,h_12,h_13,h_14,h_15,h_16,h_17,h_18,h_19]
           refine Hid.brV (fun h_20 => ?_) (fun h_20 => ?_)
           ·replace H := HS.cnd_t h_20 H
            try simp -implicitDefEqProofs (maxSteps := 999999) [-selQ_sel,h_1,h_2,h_3,h_4,h_5,h_6,h_7,h_8,h_9,h_10,h_11,h_12,h_13,h_14,h_15,h_16,h_17,h_18,h_19,h_20]
            obtain ⟨v10,h_21,H⟩ := HS.bnd H
            try simp -implicitDefEqProofs (maxSteps := 999999) [-selQ_sel,h_1,h_2,h_3,h_4,h_5,h_6,h_7,h_8,h_9,h_10,h_11,h_12,h_13,h_14,h_15,h_16,h_17,h_18,h_19,h_20,h_21]
            refine Hid.selQ (fun h_22 => ?_) (fun h_22 => ?_)
            ·replace H := HS.cnd_t h_22 H
             try simp -implicitDefEqProofs (maxSteps := 999999) [-selQ_sel,h_1,h_2,h_3,h_4,h_5,h_6,h_7,h_8,h_9,h_10,h_11,h_12,h_13,h_14,h_15,h_16,h_17,h_18,h_19,h_20,h_21,h_22]
             obtain ⟨v11,h_23,H⟩ := HS.bnd H
             try simp -implicitDefEqProofs (maxSteps := 999999) [-selQ_sel,h_1,h_2,h_3,h_4,h_5,h_6,h_7,h_8,h_9,h_10,h_11,h_12,h_13,h_14,h_15,h_16,h_17,h_18,h_19,h_20,h_21,h_22,h_23]
             refine Hid.selQ (fun h_24 => ?_) (fun h_24 => ?_)
             ·replace H := HS.cnd_t h_24 H
              try simp -implicitDefEqProofs (maxSteps := 999999) [-selQ_sel,h_1,h_2,h_3,h_4,h_5,h_6,h_7,h_8,h_9,h_10,h_11,h_12,h_13,h_14,h_15,h_16,h_17,h_18,h_19,h_20,h_21,h_22,h_23,h_24]
              refine Hid.selQ (fun h_25 => ?_) (fun h_25 => ?_)
              ·replace H := HS.cnd_t h_25 H
               try simp -implicitDefEqProofs (maxSteps := 999999) [-selQ_sel,h_1,h_2,h_3,h_4,h_5,h_6,h_7,h_8,h_9,h_10,h_11,h_12,h_13,h_14,h_15,h_16,h_17,h_18,h_19,h_20,h_21,h_22,h_23,h_24,h_25]
               refine Hid.selQ (fun h_26 => ?_) (fun h_26 => ?_)
               ·replace H := HS.cnd_t h_26 H
                try simp -implicitDefEqProofs (maxSteps := 999999) [-selQ_sel,h_1,h_2,h_3,h_4,h_5,h_6,h_7,h_8,h_9,h_10,h_11,h_12,h_13,h_14,h_15,h_16,h_17,h_18,h_19,h_20,h_21,h_22,h_23,h_24,h_25,h_26]
                have hr := (HS.some H).symm; subst hr
                refine Hid.mk ⟨_,Wk.refl _,?_⟩
                try simp -implicitDefEqProofs (maxSteps := 999999) [-selQ_sel,h_1,h_2,h_3,h_4,h_5,h_6,h_7,h_8,h_9,h_10,h_11,h_12,h_13,h_14,h_15,h_16,h_17,h_18,h_19,h_20,h_21,h_22,h_23,h_24,h_25,h_26]
               ·replace H := HS.cnd_f h_26 H
                try simp -implicitDefEqProofs (maxSteps := 999999) [-selQ_sel,h_1,h_2,h_3,h_4,h_5,h_6,h_7,h_8,h_9,h_10,h_11,h_12,h_13,h_14,h_15,h_16,h_17,h_18,h_19,h_20,h_21,h_22,h_23,h_24,h_25,h_26]
                have hr := (HS.some H).symm; subst hr
                refine Hid.mk ⟨_,Wk.refl _,?_⟩
                try simp -implicitDefEqProofs (maxSteps := 999999) [-selQ_sel,h_1,h_2,h_3,h_4,h_5,h_6,h_7,h_8,h_9,h_10,h_11,h_12,h_13,h_14,h_15,h_16,h_17,h_18,h_19,h_20,h_21,h_22,h_23,h_24,h_25,h_26]
              ·replace H := HS.cnd_f h_25 H
               try simp -implicitDefEqProofs (maxSteps := 999999) [-selQ_sel,h_1,h_2,h_3,h_4,h_5,h_6,h_7,h_8,h_9,h_10,h_11,h_12,h_13,h_14,h_15,h_16,h_17,h_18,h_19,h_20,h_21,h_22,h_23,h_24,h_25]
               have hr := (HS.some H).symm; subst hr
               refine Hid.mk ⟨_,Wk.refl _,?_⟩
               try simp -implicitDefEqProofs (maxSteps := 999999) [-selQ_sel,h_1,h_2,h_3,h_4,h_5,h_6,h_7,h_8,h_9,h_10,h_11,h_12,h_13,h_14,h_15,h_16,h_17,h_18,h_19,h_20,h_21,h_22,h_23,h_24,h_25]
             ·replace H := HS.cnd_f h_24 H
              try simp -implicitDefEqProofs (maxSteps := 999999) [-selQ_sel,h_1,h_2,h_3,h_4,h_5,h_6,h_7,h_8,h_9,h_10,h_11,h_12,h_13,h_14,h_15,h_16,h_17,h_18,h_19,h_20,h_21,h_22,h_23,h_24]
              have hr := (HS.some H).symm; subst hr
              refine Hid.mk ⟨_,Wk.refl _,?_⟩
              try simp -implicitDefEqProofs (maxSteps := 999999) [-selQ_sel,h_1,h_2,h_3,h_4,h_5,h_6,h_7,h_8,h_9,h_10,h_11,h_12,h_13,h_14,h_15,h_16,h_17,h_18,h_19,h_20,h_21,h_22,h_23,h_24]
            ·replace H := HS.cnd_f h_22 H
             try simp -implicitDefEqProofs (maxSteps := 999999) [-selQ_sel,h_1,h_2,h_3,h_4,h_5,h_6,h_7,h_8,h_9,h_10,h_11,h_12,h_13,h_14,h_15,h_16,h_17,h_18,h_19,h_20,h_21,h_22]
             have hr := (HS.some H).symm; subst hr
             refine Hid.mk ⟨_,Wk.refl _,?_⟩
             try simp -implicitDefEqProofs (maxSteps := 999999) [-selQ_sel,h_1,h_2,h_3,h_4,h_5,h_6,h_7,h_8,h_9,h_10,h_11,h_12,h_13,h_14,h_15,h_16,h_17,h_18,h_19,h_20,h_21,h_22]
           ·replace H := HS.cnd_f h_20 H
            try simp -implicitDefEqProofs (maxSteps := 999999) [-selQ_sel,h_1,h_2,h_3,h_4,h_5,h_6,h_7,h_8,h_9,h_10,h_11,h_12,h_13,h_14,h_15,h_16,h_17,h_18,h_19,h_20]
            obtain ⟨v12,h_27,H⟩ := HS.bnd H
            try simp -implicitDefEqProofs (maxSteps := 999999) [-selQ_sel,h_1,h_2,h_3,h_4,h_5,h_6,h_7,h_8,h_9,h_10,h_11,h_12,h_13,h_14,h_15,h_16,h_17,h_18,h_19,h_20,h_27]
            have hr := (HS.some H).symm; subst hr
            refine Hid.mk ⟨_,Wk.refl _,?_⟩
            try simp -implicitDefEqProofs (maxSteps := 999999) [-selQ_sel,h_1,h_2,h_3,h_4,h_5,h_6,h_7,h_8,h_9,h_10,h_11,h_12,h_13,h_14,h_15,h_16,h_17,h_18,h_19,h_20,h_27]
          ·replace H := HS.cnd_f h_19 H
           try simp -implicitDefEqProofs (maxSteps := 999999) [-selQ_sel,h_1,h_2,h_3,h_4,h_5,h_6,h_7,h_8,h_9,h_10,h_11,h_12,h_13,h_14,h_15,h_16,h_17,h_18,h_19]
           have hr := (HS.some H).symm; subst hr
           refine Hid.mk ⟨_,Wk.refl _,?_⟩
           try simp -implicitDefEqProofs (maxSteps := 999999) [-selQ_sel,h_1,h_2,h_3,h_4,h_5,h_6,h_7,h_8,h_9,h_10,h_11,h_12,h_13,h_14,h_15,h_16,h_17,h_18,h_19]
         ·replace H := HS.cnd_f h_17 H
          try simp -implicitDefEqProofs (maxSteps := 999999) [-selQ_sel,h_1,h_2,h_3,h_4,h_5,h_6,h_7,h_8,h_9,h_10,h_11,h_12,h_13,h_14,h_15,h_16,h_17]
          have hr := (HS.some H).symm; subst hr
          refine Hid.mk ⟨_,Wk.refl _,?_⟩
          try simp -implicitDefEqProofs (maxSteps := 999999) [-selQ_sel,h_1,h_2,h_3,h_4,h_5,h_6,h_7,h_8,h_9,h_10,h_11,h_12,h_13,h_14,h_15,h_16,h_17]
        ·replace H := HS.cnd_f h_15 H
         try simp -implicitDefEqProofs (maxSteps := 999999) [-selQ_sel,h_1,h_2,h_3,h_4,h_5,h_6,h_7,h_8,h_9,h_10,h_11,h_12,h_13,h_14,h_15]
         have hr := (HS.some H).symm; subst hr
         refine Hid.mk ⟨_,Wk.refl _,?_⟩
         try simp -implicitDefEqProofs (maxSteps := 999999) [-selQ_sel,h_1,h_2,h_3,h_4,h_5,h_6,h_7,h_8,h_9,h_10,h_11,h_12,h_13,h_14,h_15]
       ·replace H := HS.cnd_f h_13 H
        try simp -implicitDefEqProofs (maxSteps := 999999) [-selQ_sel,h_1,h_2,h_3,h_4,h_5,h_6,h_7,h_8,h_9,h_10,h_11,h_12,h_13]
        have hr := (HS.some H).symm; subst hr
        refine Hid.mk ⟨_,Wk.refl _,?_⟩
        try simp -implicitDefEqProofs (maxSteps := 999999) [-selQ_sel,h_1,h_2,h_3,h_4,h_5,h_6,h_7,h_8,h_9,h_10,h_11,h_12,h_13]
      ·replace H := HS.cnd_f h_11 H
       try simp -implicitDefEqProofs (maxSteps := 999999) [-selQ_sel,h_1,h_2,h_3,h_4,h_5,h_6,h_7,h_8,h_9,h_10,h_11]
       have hr := (HS.some H).symm; subst hr
       refine Hid.mk ⟨_,Wk.refl _,?_⟩
       try simp -implicitDefEqProofs (maxSteps := 999999) [-selQ_sel,h_1,h_2,h_3,h_4,h_5,h_6,h_7,h_8,h_9,h_10,h_11]
     ·replace H := HS.cnd_f h_9 H
      try simp -implicitDefEqProofs (maxSteps := 999999) [-selQ_sel,h_1,h_2,h_3,h_4,h_5,h_6,h_7,h_8,h_9]
      have hr := (HS.some H).symm; subst hr
      refine Hid.mk ⟨_,Wk.refl _,?_⟩
      try simp -implicitDefEqProofs (maxSteps := 999999) [-selQ_sel,h_1,h_2,h_3,h_4,h_5,h_6,h_7,h_8,h_9]
    ·replace H := HS.cnd_f h_7 H
     try simp -implicitDefEqProofs (maxSteps := 999999) [-selQ_sel,h_1,h_2,h_3,h_4,h_5,h_6,h_7]
     have hr := (HS.some H).symm; subst hr
     refine Hid.mk ⟨_,Wk.refl _,?_⟩
     try simp -implicitDefEqProofs (maxSteps := 999999) [-selQ_sel,h_1,h_2,h_3,h_4,h_5,h_6,h_7]
  ·replace H := HS.cnd_f h_4 H
   try simp -implicitDefEqProofs (maxSteps := 999999) [-selQ_sel,h_1,h_2,h_3,h_4]
   have hr := (HS.some H).symm; subst hr
   refine Hid.mk ⟨_,Wk.refl _,?_⟩
   try simp -implicitDefEqProofs (maxSteps := 999999) [-selQ_sel,h_1,h_2,h_3,h_4]
 ·replace H := HS.cnd_f h_2 H
  try simp -implicitDefEqProofs (maxSteps := 999999) [-selQ_sel,h_1,h_2]
  have hr := (HS.some H).symm; subst hr
  refine Hid.mk ⟨_,Wk.refl _,?_⟩
  try simp -implicitDefEqProofs (maxSteps := 999999) [-selQ_sel,h_1,h_2]
theorem laws_markNodeS_ok0 (hm : Try.prog.follows .mixedOrders = true) (k_laws_markIntS : Sound Try.prog 72 laws_markIntS_x) (k_laws_markPointS : Sound Try.prog 112 laws_markPointS_x) : Sound Try.prog 70 laws_markNodeS_x := by
 refine xOf_sound fun q r h => ?_
 obtain ⟨a0,a1⟩ := q
 refine fn_ok E0 hm Try.func70 rfl (by decide +kernel) (by rfl) fun Γ hn hk => ?_
 dsimp only [laws_markNodeS_e,laws_markNodeS_v]
 replace hn : Γ.n = 269 := hn
 replace hk : Γ.k = 1 := hk
 have H : HS (laws_markNodeS a0 a1) r := h
 clear h; unfold laws_markNodeS at H
 try simp -implicitDefEqProofs at H
 refine Tr.of_vc (cl := tabC [(72,laws_markIntS_x),(112,laws_markPointS_x)]) (E := E0) [] (tab_cons k_laws_markIntS (tab_cons k_laws_markPointS tab_nil)) hm (by rw [hn]; decide +kernel) ?_
 try simp -implicitDefEqProofs (maxSteps := 999999) [-selQ_sel]
 obtain ⟨q,h_1,H⟩ := HS.bnd H
 refine Hid.mk (Tr.weak (s' := laws_markNodeS_l0_S (a0,0,a1)) (Wk.ofk [0] hk (by rfl) (by simp -implicitDefEqProofs [laws_markNodeS_l0_S]) (by simp -implicitDefEqProofs [laws_markNodeS_l0_S])) ?_)
 refine wp_loop_of (S := laws_markNodeS_l0_S) (f := laws_markNodeS_l0) (xt := laws_markNodeS_l0_X) ?_ ?_ h_1 ?_
 ·intro q; rcases q with ⟨y36,y37⟩ <;> simp [laws_markNodeS_l0_X]
 ·clear H h_1 q
  rintro ⟨x17,x18,x19⟩ o R hf hR
  have H : HS (laws_markNodeS_l0 (x17,x18,x19)) o := hf
  clear hf; unfold laws_markNodeS_l0 at H
  try simp -implicitDefEqProofs at H
  refine Tr.of_vc (cl := tabC [(72,laws_markIntS_x),(112,laws_markPointS_x)]) (E := E0) [] (tab_cons k_laws_markIntS (tab_cons k_laws_markPointS tab_nil)) hm (by rw [hn]; decide +kernel) ?_
  try simp -implicitDefEqProofs (maxSteps := 999999) [-selQ_sel,laws_markNodeS_l0_S]
  refine Hid.brV (fun h_2 => ?_) (fun h_2 => ?_)
  ·replace H := HS.cnd_t h_2 H
   try simp -implicitDefEqProofs (maxSteps := 999999) [-selQ_sel,h_2]
   have hr := (HS.some H).symm; subst hr
   exact Hid.mk ⟨(laws_markNodeS_l0_X (x19,x17)).2,Wk.ofk [0] hk (by rfl) (by simp -implicitDefEqProofs [laws_markNodeS_l0_X,h_2]) (by simp -implicitDefEqProofs [laws_markNodeS_l0_X,h_2]),hR⟩
  ·replace H := HS.cnd_f h_2 H
   try simp -implicitDefEqProofs (maxSteps := 999999) [-selQ_sel,h_2]
   obtain ⟨v20,h_3,H⟩ := HS.bnd H
   have g_4 := idx_get h_3
   have g_5 := idx_lt h_3
   have g_6 := idx_getE h_3
   try simp -implicitDefEqProofs (maxSteps := 999999) [-selQ_sel,h_2,h_3,g_4,g_5,g_6]
   obtain ⟨⟨w22,w23⟩,h_7,H⟩ := HS.bnd H
   dsimp only at H
   have g_8 := laws_markIntS_n h_7
   try simp -implicitDefEqProofs (maxSteps := 999999) [-selQ_sel,h_2,h_3,g_4,g_5,g_6,h_7,g_8]
   obtain ⟨⟨w25,w26⟩,h_9,H⟩ := HS.bnd H
   dsimp only at H
   have g_10 := laws_markPointS_n h_9
   try simp -implicitDefEqProofs (maxSteps := 999999) [-selQ_sel,h_2,h_3,g_4,g_5,g_6,h_7,g_8,h_9,g_10]
   obtain ⟨⟨w28,w29⟩,h_11,H⟩ := HS.bnd H
   dsimp only at H
   have g_12 := laws_markIntS_n h_11
   try simp -implicitDefEqProofs (maxSteps := 999999) [-selQ_sel,h_2,h_3,g_4,g_5,g_6,h_7,g_8,h_9,g_10,h_11,g_12]
   obtain ⟨⟨w31,w32⟩,h_13,H⟩ := HS.bnd H
   dsimp only at H
   have g_14 := laws_markIntS_n h_13
   try simp -implicitDefEqProofs (maxSteps := 999999) [-selQ_sel,h_2,h_3,g_4,g_5,g_6,h_7,g_8,h_9,g_10,h_11,g_12,h_13,g_14]
   obtain ⟨⟨w34,w35⟩,h_15,H⟩ := HS.bnd H
   dsimp only at H
   have g_16 := laws_markPointS_n h_15
   try simp -implicitDefEqProofs (maxSteps := 999999) [-selQ_sel,h_2,h_3,g_4,g_5,g_6,h_7,g_8,h_9,g_10,h_11,g_12,h_13,g_14,h_15,g_16]
   have hr := (HS.some H).symm; subst hr
   exact Hid.mk ⟨laws_markNodeS_l0_S (w34,(IntKind.i64.wrap (x18 + 1)),(List.set x19 (Int.toNat x18) (TNode.mk x17 (IntKind.i64.wrap (x17 + 1)) (ieq (Int.tmod (IntKind.i64.wrap ((IntKind.i64.wrap (x17 + 1)) + 1)) 3) 0) (TMat.mk (IntKind.i64.wrap ((IntKind.i64.wrap ((IntKind.i64.wrap (x17 + 1)) + 1)) + 1)) (IntKind.i64.wrap ((IntKind.i64.wrap ((IntKind.i64.wrap ((IntKind.i64.wrap (x17 + 1)) + 1)) + 1)) + 1)) (IntKind.i64.wrap ((IntKind.i64.wrap ((IntKind.i64.wrap ((IntKind.i64.wrap ((IntKind.i64.wrap (x17 + 1)) + 1)) + 1)) + 1)) + 1)) (IntKind.i64.wrap ((IntKind.i64.wrap ((IntKind.i64.wrap ((IntKind.i64.wrap ((IntKind.i64.wrap ((IntKind.i64.wrap (x17 + 1)) + 1)) + 1)) + 1)) + 1)) + 1)) (IntKind.i64.wrap ((IntKind.i64.wrap ((IntKind.i64.wrap ((IntKind.i64.wrap ((IntKind.i64.wrap ((IntKind.i64.wrap ((IntKind.i64.wrap (x17 + 1)) + 1)) + 1)) + 1)) + 1)) + 1)) + 1)) (IntKind.i64.wrap ((IntKind.i64.wrap ((IntKind.i64.wrap ((IntKind.i64.wrap ((IntKind.i64.wrap ((IntKind.i64.wrap ((IntKind.i64.wrap ((IntKind.i64.wrap (x17 + 1)) + 1)) + 1)) + 1)) + 1)) + 1)) + 1)) + 1))) (TPath.mk w23 w26) (ieq (Int.tmod w25 3) 0) (IntKind.i64.wrap (w25 + 1)) w29 (TPaint.mk w28 (TColor.mk (IntKind.i64.wrap (w28 + 1)) (IntKind.i64.wrap ((IntKind.i64.wrap (w28 + 1)) + 1)) (IntKind.i64.wrap ((IntKind.i64.wrap ((IntKind.i64.wrap (w28 + 1)) + 1)) + 1)) (IntKind.i64.wrap ((IntKind.i64.wrap ((IntKind.i64.wrap ((IntKind.i64.wrap (w28 + 1)) + 1)) + 1)) + 1))) (TColor.mk (IntKind.i64.wrap ((IntKind.i64.wrap ((IntKind.i64.wrap ((IntKind.i64.wrap ((IntKind.i64.wrap (w28 + 1)) + 1)) + 1)) + 1)) + 1)) (IntKind.i64.wrap ((IntKind.i64.wrap ((IntKind.i64.wrap ((IntKind.i64.wrap ((IntKind.i64.wrap ((IntKind.i64.wrap (w28 + 1)) + 1)) + 1)) + 1)) + 1)) + 1)) (IntKind.i64.wrap ((IntKind.i64.wrap ((IntKind.i64.wrap ((IntKind.i64.wrap ((IntKind.i64.wrap ((IntKind.i64.wrap ((IntKind.i64.wrap (w28 + 1)) + 1)) + 1)) + 1)) + 1)) + 1)) + 1)) (IntKind.i64.wrap ((IntKind.i64.wrap ((IntKind.i64.wrap ((IntKind.i64.wrap ((IntKind.i64.wrap ((IntKind.i64.wrap ((IntKind.i64.wrap ((IntKind.i64.wrap (w28 + 1)) + 1)) + 1)) + 1)) + 1)) + 1)) + 1)) + 1))) (TPoint.mk (IntKind.i64.wrap ((IntKind.i64.wrap ((IntKind.i64.wrap ((IntKind.i64.wrap ((IntKind.i64.wrap ((IntKind.i64.wrap ((IntKind.i64.wrap ((IntKind.i64.wrap ((IntKind.i64.wrap (w28 + 1)) + 1)) + 1)) + 1)) + 1)) + 1)) + 1)) + 1)) + 1)) (IntKind.i64.wrap ((IntKind.i64.wrap ((IntKind.i64.wrap ((IntKind.i64.wrap ((IntKind.i64.wrap ((IntKind.i64.wrap ((IntKind.i64.wrap ((IntKind.i64.wrap ((IntKind.i64.wrap ((IntKind.i64.wrap (w28 + 1)) + 1)) + 1)) + 1)) + 1)) + 1)) + 1)) + 1)) + 1)) + 1))) (TPoint.mk (IntKind.i64.wrap ((IntKind.i64.wrap ((IntKind.i64.wrap ((IntKind.i64.wrap ((IntKind.i64.wrap ((IntKind.i64.wrap ((IntKind.i64.wrap ((IntKind.i64.wrap ((IntKind.i64.wrap ((IntKind.i64.wrap ((IntKind.i64.wrap (w28 + 1)) + 1)) + 1)) + 1)) + 1)) + 1)) + 1)) + 1)) + 1)) + 1)) + 1)) (IntKind.i64.wrap ((IntKind.i64.wrap ((IntKind.i64.wrap ((IntKind.i64.wrap ((IntKind.i64.wrap ((IntKind.i64.wrap ((IntKind.i64.wrap ((IntKind.i64.wrap ((IntKind.i64.wrap ((IntKind.i64.wrap ((IntKind.i64.wrap ((IntKind.i64.wrap (w28 + 1)) + 1)) + 1)) + 1)) + 1)) + 1)) + 1)) + 1)) + 1)) + 1)) + 1)) + 1)))) (IntKind.i64.wrap ((IntKind.i64.wrap ((IntKind.i64.wrap ((IntKind.i64.wrap ((IntKind.i64.wrap ((IntKind.i64.wrap ((IntKind.i64.wrap ((IntKind.i64.wrap ((IntKind.i64.wrap ((IntKind.i64.wrap ((IntKind.i64.wrap ((IntKind.i64.wrap ((IntKind.i64.wrap (w28 + 1)) + 1)) + 1)) + 1)) + 1)) + 1)) + 1)) + 1)) + 1)) + 1)) + 1)) + 1)) + 1)) (IntKind.i64.wrap ((IntKind.i64.wrap ((IntKind.i64.wrap ((IntKind.i64.wrap ((IntKind.i64.wrap ((IntKind.i64.wrap ((IntKind.i64.wrap ((IntKind.i64.wrap ((IntKind.i64.wrap ((IntKind.i64.wrap ((IntKind.i64.wrap ((IntKind.i64.wrap ((IntKind.i64.wrap ((IntKind.i64.wrap (w28 + 1)) + 1)) + 1)) + 1)) + 1)) + 1)) + 1)) + 1)) + 1)) + 1)) + 1)) + 1)) + 1)) + 1)) (TPath.mk w32 w35)))),Wk.trans (Wk.abs (id := 0) (j := 1) (js := [2,3,4,5]) (by rfl) (by rfl) (by decide) (by simp -implicitDefEqProofs [laws_markNodeS_l0_S,h_2,h_3,g_4,g_5,g_6,h_7,g_8,h_9,g_10,h_11,g_12,h_13,g_14,h_15,g_16]) (by rfl) (by simp -implicitDefEqProofs [laws_markNodeS_l0_S,h_2,h_3,g_4,g_5,g_6,h_7,g_8,h_9,g_10,h_11,g_12,h_13,g_14,h_15,g_16]) (by simp -implicitDefEqProofs [laws_markNodeS_l0_S,h_2,h_3,g_4,g_5,g_6,h_7,g_8,h_9,g_10,h_11,g_12,h_13,g_14,h_15,g_16])) (Wk.trans (Wk.abs (id := 0) (j := 2) (js := [3,4,5]) (by rfl) (by rfl) (by decide) (by simp -implicitDefEqProofs [laws_markNodeS_l0_S,h_2,h_3,g_4,g_5,g_6,h_7,g_8,h_9,g_10,h_11,g_12,h_13,g_14,h_15,g_16]) (by rfl) (by simp -implicitDefEqProofs [laws_markNodeS_l0_S,h_2,h_3,g_4,g_5,g_6,h_7,g_8,h_9,g_10,h_11,g_12,h_13,g_14,h_15,g_16]) (by simp -implicitDefEqProofs [laws_markNodeS_l0_S,h_2,h_3,g_4,g_5,g_6,h_7,g_8,h_9,g_10,h_11,g_12,h_13,g_14,h_15,g_16])) (Wk.trans (Wk.abs (id := 0) (j := 3) (js := [4,5]) (by rfl) (by rfl) (by decide) (by simp -implicitDefEqProofs [laws_markNodeS_l0_S,h_2,h_3,g_4,g_5,g_6,h_7,g_8,h_9,g_10,h_11,g_12,h_13,g_14,h_15,g_16]) (by rfl) (by simp -implicitDefEqProofs [laws_markNodeS_l0_S,h_2,h_3,g_4,g_5,g_6,h_7,g_8,h_9,g_10,h_11,g_12,h_13,g_14,h_15,g_16]) (by simp -implicitDefEqProofs [laws_markNodeS_l0_S,h_2,h_3,g_4,g_5,g_6,h_7,g_8,h_9,g_10,h_11,g_12,h_13,g_14,h_15,g_16])) (Wk.trans (Wk.abs (id := 0) (j := 4) (js := [5]) (by rfl) (by rfl) (by decide) (by simp -implicitDefEqProofs [laws_markNodeS_l0_S,h_2,h_3,g_4,g_5,g_6,h_7,g_8,h_9,g_10,h_11,g_12,h_13,g_14,h_15,g_16]) (by rfl) (by simp -implicitDefEqProofs [laws_markNodeS_l0_S,h_2,h_3,g_4,g_5,g_6,h_7,g_8,h_9,g_10,h_11,g_12,h_13,g_14,h_15,g_16]) (by simp -implicitDefEqProofs [laws_markNodeS_l0_S,h_2,h_3,g_4,g_5,g_6,h_7,g_8,h_9,g_10,h_11,g_12,h_13,g_14,h_15,g_16])) (Wk.trans (Wk.abs (id := 0) (j := 5) (js := []) (by rfl) (by rfl) (by decide) (by simp -implicitDefEqProofs [laws_markNodeS_l0_S,h_2,h_3,g_4,g_5,g_6,h_7,g_8,h_9,g_10,h_11,g_12,h_13,g_14,h_15,g_16]) (by rfl) (by simp -implicitDefEqProofs [laws_markNodeS_l0_S,h_2,h_3,g_4,g_5,g_6,h_7,g_8,h_9,g_10,h_11,g_12,h_13,g_14,h_15,g_16]) (by simp -implicitDefEqProofs [laws_markNodeS_l0_S,h_2,h_3,g_4,g_5,g_6,h_7,g_8,h_9,g_10,h_11,g_12,h_13,g_14,h_15,g_16])) (Wk.ofk [0] hk (by rfl) (by simp -implicitDefEqProofs [laws_markNodeS_l0_S,h_2,h_3,g_4,g_5,g_6,h_7,g_8,h_9,g_10,h_11,g_12,h_13,g_14,h_15,g_16]) (by simp -implicitDefEqProofs [laws_markNodeS_l0_S,h_2,h_3,g_4,g_5,g_6,h_7,g_8,h_9,g_10,h_11,g_12,h_13,g_14,h_15,g_16])))))),hR⟩
 ·obtain ⟨y36,y37⟩ := q
  try dsimp only at H
  try simp -implicitDefEqProofs (maxSteps := 999999) [-selQ_sel,laws_markNodeS_l0_X]
  have hr := (HS.some H).symm; subst hr
  refine Hid.mk ⟨_,Wk.refl _,?_⟩
  try simp -implicitDefEqProofs (maxSteps := 999999) [-selQ_sel]
theorem laws_eqNode_ok0 (hm : Try.prog.follows .mixedOrders = true) (k_laws_eqMat : Sound Try.prog 66 laws_eqMat_x) (k_laws_eqPath : Sound Try.prog 67 laws_eqPath_x) (k_laws_eqIntS : Sound Try.prog 68 laws_eqIntS_x) (k_laws_eqPaint : Sound Try.prog 69 laws_eqPaint_x) : Sound Try.prog 23 laws_eqNode_x := by
 refine xOf_sound fun q r h => ?_
 obtain ⟨a0,a1⟩ := q
 refine fn_ok E0 hm Try.func23 rfl (by decide +kernel) (by rfl) fun Γ hn hk => ?_
 dsimp only [laws_eqNode_e,laws_eqNode_v]
 replace hn : Γ.n = 70 := hn
 replace hk : Γ.k = 0 := hk
 have H : HS (laws_eqNode a0 a1) r := h
 clear h; unfold laws_eqNode at H
 try simp -implicitDefEqProofs at H
 refine Tr.of_vc (cl := tabC [(66,laws_eqMat_x),(67,laws_eqPath_x),(68,laws_eqIntS_x),(69,laws_eqPaint_x)]) (E := E0) [] (tab_cons k_laws_eqMat (tab_cons k_laws_eqPath (tab_cons k_laws_eqIntS (tab_cons k_laws_eqPaint tab_nil)))) hm (by rw [hn]; decide +kernel) ?_
 try simp -implicitDefEqProofs (maxSteps := 999999) [-selQ_sel]
 refine Hid.brV (fun h_1 => ?_) (fun h_1 => ?_)
 ·replace H := HS.cnd_t h_1 H
  try simp -implicitDefEqProofs (maxSteps := 999999) [-selQ_sel,h_1]
  refine Hid.brV (fun h_2 => ?_) (fun h_2 => ?_)
  ·replace H := HS.cnd_t h_2 H
   try simp -implicitDefEqProofs (maxSteps := 999999) [-selQ_sel,h_1,h_2]
   refine Hid.brV (fun h_3 => ?_) (fun h_3 => ?_)
   ·replace H := HS.cnd_t h_3 H
    try simp -implicitDefEqProofs (maxSteps := 999999) [-selQ_sel,h_1,h_2,h_3]
    obtain ⟨v1,h_4,H⟩ := HS.bnd H
    try simp -implicitDefEqProofs (maxSteps := 999999) [-selQ_sel,h_1,h_2,h_3,h_4]
    refine Hid.brV (fun h_5 => ?_) (fun h_5 => ?_)
    ·replace H := HS.cnd_t h_5 H
     try simp -implicitDefEqProofs (maxSteps := 999999) [-selQ_sel,h_1,h_2,h_3,h_4,h_5]
     obtain ⟨v2,h_6,H⟩ := HS.bnd H
     try simp -implicitDefEqProofs (maxSteps := 999999) [-selQ_sel,h_1,h_2,h_3,h_4,h_5,h_6]
     refine Hid.brV (fun h_7 => ?_) (fun h_7 => ?_)
     ·replace H := HS.cnd_t h_7 H
      try simp -implicitDefEqProofs (maxSteps := 999999) [-selQ_sel,h_1,h_2,h_3,h_4,h_5,h_6,h_7]
      refine Hid.brV (fun h_8 => ?_) (fun h_8 => ?_)
      ·replace H := HS.cnd_t h_8 H
       try simp -implicitDefEqProofs (maxSteps := 999999) [-selQ_sel,h_1,h_2,h_3,h_4,h_5,h_6,h_7,h_8]
       refine Hid.brV (fun h_9 => ?_) (fun h_9 => ?_)
       ·replace H := HS.cnd_t h_9 H
        try simp -implicitDefEqProofs (maxSteps := 999999) [-selQ_sel,h_1,h_2,h_3,h_4,h_5,h_6,h_7,h_8,h_9]
        obtain ⟨v3,h_10,H⟩ := HS.bnd H
        try simp -implicitDefEqProofs (maxSteps := 999999) [-selQ_sel,h_1,h_2,h_3,h_4,h_5,h_6,h_7,h_8,h_9,h_10]
        refine Hid.brV (fun h_11 => ?_) (fun h_11 => ?_)
        ·replace H := HS.cnd_t h_11 H
         try simp -implicitDefEqProofs (maxSteps := 999999) [-selQ_sel,h_1,h_2,h_3,h_4,h_5,h_6,h_7,h_8,h_9,h_10,h_11]
         obtain ⟨v4,h_12,H⟩ := HS.bnd H
         try simp -implicitDefEqProofs (maxSteps := 999999) [-selQ_sel,h_1,h_2,h_3,h_4,h_5,h_6,h_7,h_8,h_9,h_10,h_11,h_12]
         refine Hid.brV (fun h_13 => ?_) (fun h_13 => ?_)
         ·replace H := HS.cnd_t h_13 H
          try simp -implicitDefEqProofs (maxSteps := 999999) [-selQ_sel,h_1,h_2,h_3,h_4,h_5,h_6,h_7,h_8,h_9,h_10,h_11,h_12,h_13]
          refine Hid.brV (fun h_14 => ?_) (fun h_14 => ?_)
          ·replace H := HS.cnd_t h_14 H
           try simp -implicitDefEqProofs (maxSteps := 999999) [-selQ_sel,h_1,h_2,h_3,h_4,h_5,h_6,h_7,h_8,h_9,h_10,h_11,h_12,h_13,h_14]
           refine Hid.brV (fun h_15 => ?_) (fun h_15 => ?_)
           ·replace H := HS.cnd_t h_15 H
            try simp -implicitDefEqProofs (maxSteps := 999999) [-selQ_sel,h_1,h_2,h_3,h_4,h_5,h_6,h_7,h_8,h_9,h_10,h_11,h_12,h_13,h_14,h_15]
            obtain ⟨v5,h_16,H⟩ := HS.bnd H
            try simp -implicitDefEqProofs (maxSteps := 999999) [-selQ_sel,h_1,h_2,h_3,h_4,h_5,h_6,h_7,h_8,h_9,h_10,h_11,h_12,h_13,h_14,h_15,h_16]
            refine Hid.brV (fun h_17 => ?_) (fun h_17 => ?_)
            ·replace H := HS.cnd_t h_17 H
             try simp -implicitDefEqProofs (maxSteps := 999999) [-selQ_sel,h_1,h_2,h_3,h_4,h_5,h_6,h_7,h_8,h_9,h_10,h_11,h_12,h_13,h_14,h_15,h_16,h_17]
             have hr := (HS.some H).symm; subst hr
             refine Hid.mk ⟨_,Wk.refl _,?_⟩
             try simp -implicitDefEqProofs (maxSteps := 999999) [-selQ_sel,h_1,h_2,h_3,h_4,h_5,h_6,h_7,h_8,h_9,h_10,h_11,h_12,h_13,h_14,h_15,h_16,h_17]
            ·replace H := HS.cnd_f h_17 H
             try simp -implicitDefEqProofs (maxSteps := 999999) [-selQ_sel,h_1,h_2,h_3,h_4,h_5,h_6,h_7,h_8,h_9,h_10,h_11,h_12,h_13,h_14,h_15,h_16,h_17]
             have hr := (HS.some H).symm; subst hr
             refine Hid.mk ⟨_,Wk.refl _,?_⟩
             try simp -implicitDefEqProofs (maxSteps := 999999) [-selQ_sel,h_1,h_2,h_3,h_4,h_5,h_6,h_7,h_8,h_9,h_10,h_11,h_12,h_13,h_14,h_15,h_16,h_17]
           ·replace H := HS.cnd_f h_15 H
            try simp -implicitDefEqProofs (maxSteps := 999999) [-selQ_sel,h_1,h_2,h_3,h_4,h_5,h_6,h_7,h_8,h_9,h_10,h_11,h_12,h_13,h_14,h_15]
            have hr := (HS.some H).symm; subst hr
            refine Hid.mk ⟨_,Wk.refl _,?_⟩
            try simp -implicitDefEqProofs (maxSteps := 999999) [-selQ_sel,h_1,h_2,h_3,h_4,h_5,h_6,h_7,h_8,h_9,h_10,h_11,h_12,h_13,h_14,h_15]
          ·replace H := HS.cnd_f h_14 H
           try simp -implicitDefEqProofs (maxSteps := 999999) [-selQ_sel,h_1,h_2,h_3,h_4,h_5,h_6,h_7,h_8,h_9,h_10,h_11,h_12,h_13,h_14]
           have hr := (HS.some H).symm; subst hr
           refine Hid.mk ⟨_,Wk.refl _,?_⟩
           try simp -implicitDefEqProofs (maxSteps := 999999) [-selQ_sel,h_1,h_2,h_3,h_4,h_5,h_6,h_7,h_8,h_9,h_10,h_11,h_12,h_13,h_14]
         ·replace H := HS.cnd_f h_13 H
          try simp -implicitDefEqProofs (maxSteps := 999999) [-selQ_sel,h_1,h_2,h_3,h_4,h_5,h_6,h_7,h_8,h_9,h_10,h_11,h_12,h_13]
          have hr := (HS.some H).symm; subst hr
          refine Hid.mk ⟨_,Wk.refl _,?_⟩
          try simp -implicitDefEqProofs (maxSteps := 999999) [-selQ_sel,h_1,h_2,h_3,h_4,h_5,h_6,h_7,h_8,h_9,h_10,h_11,h_12,h_13]
        ·replace H := HS.cnd_f h_11 H
         try simp -implicitDefEqProofs (maxSteps := 999999) [-selQ_sel,h_1,h_2,h_3,h_4,h_5,h_6,h_7,h_8,h_9,h_10,h_11]
         have hr := (HS.some H).symm; subst hr
         refine Hid.mk ⟨_,Wk.refl _,?_⟩
         try simp -implicitDefEqProofs (maxSteps := 999999) [-selQ_sel,h_1,h_2,h_3,h_4,h_5,h_6,h_7,h_8,h_9,h_10,h_11]
       ·replace H := HS.cnd_f h_9 H
        try simp -implicitDefEqProofs (maxSteps := 999999) [-selQ_sel,h_1,h_2,h_3,h_4,h_5,h_6,h_7,h_8,h_9]
        have hr := (HS.some H).symm; subst hr
        refine Hid.mk ⟨_,Wk.refl _,?_⟩
        try simp -implicitDefEqProofs (maxSteps := 999999) [-selQ_sel,h_1,h_2,h_3,h_4,h_5,h_6,h_7,h_8,h_9]
      ·replace H := HS.cnd_f h_8 H
       try simp -implicitDefEqProofs (maxSteps := 999999) [-selQ_sel,h_1,h_2,h_3,h_4,h_5,h_6,h_7,h_8]
       have hr := (HS.some H).symm; subst hr
       refine Hid.mk ⟨_,Wk.refl _,?_⟩
       try simp -implicitDefEqProofs (maxSteps := 999999) [-selQ_sel,h_1,h_2,h_3,h_4,h_5,h_6,h_7,h_8]
     ·replace H := HS.cnd_f h_7 H
      try simp -implicitDefEqProofs (maxSteps := 999999) [-selQ_sel,h_1,h_2,h_3,h_4,h_5,h_6,h_7]
      have hr := (HS.some H).symm; subst hr
      refine Hid.mk ⟨_,Wk.refl _,?_⟩
      try simp -implicitDefEqProofs (maxSteps := 999999) [-selQ_sel,h_1,h_2,h_3,h_4,h_5,h_6,h_7]
    ·replace H := HS.cnd_f h_5 H
     try simp -implicitDefEqProofs (maxSteps := 999999) [-selQ_sel,h_1,h_2,h_3,h_4,h_5]
     have hr := (HS.some H).symm; subst hr
     refine Hid.mk ⟨_,Wk.refl _,?_⟩
     try simp -implicitDefEqProofs (maxSteps := 999999) [-selQ_sel,h_1,h_2,h_3,h_4,h_5]
   ·replace H := HS.cnd_f h_3 H
    try simp -implicitDefEqProofs (maxSteps := 999999) [-selQ_sel,h_1,h_2,h_3]
    have hr := (HS.some H).symm; subst hr
    refine Hid.mk ⟨_,Wk.refl _,?_⟩
    try simp -implicitDefEqProofs (maxSteps := 999999) [-selQ_sel,h_1,h_2,h_3]
  ·replace H := HS.cnd_f h_2 H
   try simp -implicitDefEqProofs (maxSteps := 999999) [-selQ_sel,h_1,h_2]
   have hr := (HS.some H).symm; subst hr
   refine Hid.mk ⟨_,Wk.refl _,?_⟩
   try simp -implicitDefEqProofs (maxSteps := 999999) [-selQ_sel,h_1,h_2]
 ·replace H := HS.cnd_f h_1 H
  try simp -implicitDefEqProofs (maxSteps := 999999) [-selQ_sel,h_1]
  have hr := (HS.some H).symm; subst hr
  refine Hid.mk ⟨_,Wk.refl _,?_⟩
  try simp -implicitDefEqProofs (maxSteps := 999999) [-selQ_sel,h_1]
theorem spec_SceneOk_ok0 (hm : Try.prog.follows .mixedOrders = true) (k_spec_NodeOk : Sound Try.prog 57 spec_NodeOk_x) (k_spec_NodeAt : Sound Try.prog 45 spec_NodeAt_x) (k_spec_DepthOf : Sound Try.prog 58 spec_DepthOf_x) (k_spec_l01In : Sound Try.prog 87 spec_l01In_x) : Sound Try.prog 44 spec_SceneOk_x := by
 refine xOf_sound fun q r h => ?_
 revert h; revert r; revert q; intro a0 r h
 refine fn_ok E0 hm Try.func44 rfl (by decide +kernel) (by rfl) fun Γ hn hk => ?_
 dsimp only [spec_SceneOk_e,spec_SceneOk_v]
 replace hn : Γ.n = 61 := hn
 replace hk : Γ.k = 0 := hk
 have H : HS (spec_SceneOk a0) r := h
 clear h; unfold spec_SceneOk at H
 try simp -implicitDefEqProofs at H
 refine Tr.of_vc (cl := tabC [(57,spec_NodeOk_x),(45,spec_NodeAt_x),(58,spec_DepthOf_x),(87,spec_l01In_x)]) (E := E0) [] (tab_cons k_spec_NodeOk (tab_cons k_spec_NodeAt (tab_cons k_spec_DepthOf (tab_cons k_spec_l01In tab_nil)))) hm (by rw [hn]; decide +kernel) ?_
 try simp -implicitDefEqProofs (maxSteps := 999999) [-selQ_sel]
 refine Hid.brV (fun h_1 => ?_) (fun h_1 => ?_)
 ·replace H := HS.cnd_t h_1 H
  try simp -implicitDefEqProofs (maxSteps := 999999) [-selQ_sel,h_1]
  obtain ⟨q,h_2,H⟩ := HS.bnd H
  refine Hid.mk (Tr.weak (s' := (spec_SceneOk_l0_S a0) 0) (Wk.ofk [0] hk (by rfl) (by simp -implicitDefEqProofs [spec_SceneOk_l0_S,h_1]) (by simp -implicitDefEqProofs [spec_SceneOk_l0_S,h_1])) ?_)
  refine wp_loop_of (S := (spec_SceneOk_l0_S a0)) (f := (spec_SceneOk_l0 a0)) (xt := (spec_SceneOk_l0_X a0)) ?_ ?_ h_2 ?_
  ·intro q; rcases q with ⟨⟩ | ⟨⟩ <;> simp [spec_SceneOk_l0_X]
  ·clear H h_2 q
   rintro x8 o R hf hR
   have H : HS (spec_SceneOk_l0 a0 x8) o := hf
   clear hf; unfold spec_SceneOk_l0 at H
   try simp -implicitDefEqProofs at H
   refine Tr.of_vc (cl := tabC [(57,spec_NodeOk_x),(45,spec_NodeAt_x),(58,spec_DepthOf_x),(87,spec_l01In_x)]) (E := E0) [] (tab_cons k_spec_NodeOk (tab_cons k_spec_NodeAt (tab_cons k_spec_DepthOf (tab_cons k_spec_l01In tab_nil)))) hm (by rw [hn]; decide +kernel) ?_
   try simp -implicitDefEqProofs (maxSteps := 999999) [-selQ_sel,spec_SceneOk_l0_S]
   refine Hid.brV (fun h_3 => ?_) (fun h_3 => ?_)
   ·replace H := HS.cnd_t h_3 H
    try simp -implicitDefEqProofs (maxSteps := 999999) [-selQ_sel,h_3]
    have hr := (HS.some H).symm; subst hr
    exact Hid.mk ⟨(spec_SceneOk_l0_X a0 (.inl ())).2,Wk.ofk [] hk (by rfl) (by simp -implicitDefEqProofs [spec_SceneOk_l0_X,h_3]) (by simp -implicitDefEqProofs [spec_SceneOk_l0_X,h_3]),hR⟩
   ·replace H := HS.cnd_f h_3 H
    try simp -implicitDefEqProofs (maxSteps := 999999) [-selQ_sel,h_3]
    obtain ⟨v9,h_4,H⟩ := HS.bnd H
    try simp -implicitDefEqProofs (maxSteps := 999999) [-selQ_sel,h_3,h_4]
    obtain ⟨v10,h_5,H⟩ := HS.bnd H
    try simp -implicitDefEqProofs (maxSteps := 999999) [-selQ_sel,h_3,h_4,h_5]
    refine Hid.selQ (fun h_6 => ?_) (fun h_6 => ?_)
    ·replace H := HS.cnd_t h_6 H
     try simp -implicitDefEqProofs (maxSteps := 999999) [-selQ_sel,h_3,h_4,h_5,h_6]
     obtain ⟨v11,h_7,H⟩ := HS.bnd H
     try simp -implicitDefEqProofs (maxSteps := 999999) [-selQ_sel,h_3,h_4,h_5,h_6,h_7]
     refine Hid.selQ (fun h_8 => ?_) (fun h_8 => ?_)
     ·replace H := HS.cnd_t h_8 H
      try simp -implicitDefEqProofs (maxSteps := 999999) [-selQ_sel,h_3,h_4,h_5,h_6,h_7,h_8]
      obtain ⟨v12,h_9,H⟩ := HS.bnd H
      try simp -implicitDefEqProofs (maxSteps := 999999) [-selQ_sel,h_3,h_4,h_5,h_6,h_7,h_8,h_9]
      obtain ⟨v13,h_10,H⟩ := HS.bnd H
      try simp -implicitDefEqProofs (maxSteps := 999999) [-selQ_sel,h_3,h_4,h_5,h_6,h_7,h_8,h_9,h_10]
      refine Hid.brV (fun h_11 => ?_) (fun h_11 => ?_)
      ·replace H := HS.cnd_t h_11 H
       try simp -implicitDefEqProofs (maxSteps := 999999) [-selQ_sel,h_3,h_4,h_5,h_6,h_7,h_8,h_9,h_10,h_11]
       obtain ⟨v14,h_12,H⟩ := HS.bnd H
       try simp -implicitDefEqProofs (maxSteps := 999999) [-selQ_sel,h_3,h_4,h_5,h_6,h_7,h_8,h_9,h_10,h_11,h_12]
       refine Hid.selQ (fun h_13 => ?_) (fun h_13 => ?_)
       ·replace H := HS.cnd_t h_13 H
        try simp -implicitDefEqProofs (maxSteps := 999999) [-selQ_sel,h_3,h_4,h_5,h_6,h_7,h_8,h_9,h_10,h_11,h_12,h_13]
        have hr := (HS.some H).symm; subst hr
        exact Hid.mk ⟨spec_SceneOk_l0_S a0 (IntKind.i64.wrap (x8 + 1)),Wk.ofk [0] hk (by rfl) (by simp -implicitDefEqProofs [spec_SceneOk_l0_S,h_3,h_4,h_5,h_6,h_7,h_8,h_9,h_10,h_11,h_12,h_13]) (by simp -implicitDefEqProofs [spec_SceneOk_l0_S,h_3,h_4,h_5,h_6,h_7,h_8,h_9,h_10,h_11,h_12,h_13]),hR⟩
       ·replace H := HS.cnd_f h_13 H
        try simp -implicitDefEqProofs (maxSteps := 999999) [-selQ_sel,h_3,h_4,h_5,h_6,h_7,h_8,h_9,h_10,h_11,h_12,h_13]
        refine Hid.selQ (fun h_14 => ?_) (fun h_14 => ?_)
        ·replace H := HS.cnd_t h_14 H
         try simp -implicitDefEqProofs (maxSteps := 999999) [-selQ_sel,h_3,h_4,h_5,h_6,h_7,h_8,h_9,h_10,h_11,h_12,h_13,h_14]
         obtain ⟨v15,h_15,H⟩ := HS.bnd H
         try simp -implicitDefEqProofs (maxSteps := 999999) [-selQ_sel,h_3,h_4,h_5,h_6,h_7,h_8,h_9,h_10,h_11,h_12,h_13,h_14,h_15]
         refine Hid.brV (fun h_16 => ?_) (fun h_16 => ?_)
         ·replace H := HS.cnd_t h_16 H
          try simp -implicitDefEqProofs (maxSteps := 999999) [-selQ_sel,h_3,h_4,h_5,h_6,h_7,h_8,h_9,h_10,h_11,h_12,h_13,h_14,h_15,h_16]
          have hr := (HS.some H).symm; subst hr
          exact Hid.mk ⟨spec_SceneOk_l0_S a0 (IntKind.i64.wrap (x8 + 1)),Wk.ofk [0] hk (by rfl) (by simp -implicitDefEqProofs [spec_SceneOk_l0_S,h_3,h_4,h_5,h_6,h_7,h_8,h_9,h_10,h_11,h_12,h_13,h_14,h_15,h_16]) (by simp -implicitDefEqProofs [spec_SceneOk_l0_S,h_3,h_4,h_5,h_6,h_7,h_8,h_9,h_10,h_11,h_12,h_13,h_14,h_15,h_16]),hR⟩
         ·replace H := HS.cnd_f h_16 H
          try simp -implicitDefEqProofs (maxSteps := 999999) [-selQ_sel,h_3,h_4,h_5,h_6,h_7,h_8,h_9,h_10,h_11,h_12,h_13,h_14,h_15,h_16]
          have hr := (HS.some H).symm; subst hr
          exact Hid.mk ⟨(spec_SceneOk_l0_X a0 (.inr ())).2,Wk.ofk [] hk (by rfl) (by simp -implicitDefEqProofs [spec_SceneOk_l0_X,h_3,h_4,h_5,h_6,h_7,h_8,h_9,h_10,h_11,h_12,h_13,h_14,h_15,h_16]) (by simp -implicitDefEqProofs [spec_SceneOk_l0_X,h_3,h_4,h_5,h_6,h_7,h_8,h_9,h_10,h_11,h_12,h_13,h_14,h_15,h_16]),hR⟩
        ·replace H := HS.cnd_f h_14 H
         try simp -implicitDefEqProofs (maxSteps := 999999) [-selQ_sel,h_3,h_4,h_5,h_6,h_7,h_8,h_9,h_10,h_11,h_12,h_13,h_14]
         have hr := (HS.some H).symm; subst hr
         exact Hid.mk ⟨(spec_SceneOk_l0_X a0 (.inr ())).2,Wk.ofk [] hk (by rfl) (by simp -implicitDefEqProofs [spec_SceneOk_l0_X,h_3,h_4,h_5,h_6,h_7,h_8,h_9,h_10,h_11,h_12,h_13,h_14]) (by simp -implicitDefEqProofs [spec_SceneOk_l0_X,h_3,h_4,h_5,h_6,h_7,h_8,h_9,h_10,h_11,h_12,h_13,h_14]),hR⟩
      ·replace H := HS.cnd_f h_11 H
       try simp -implicitDefEqProofs (maxSteps := 999999) [-selQ_sel,h_3,h_4,h_5,h_6,h_7,h_8,h_9,h_10,h_11]
       have hr := (HS.some H).symm; subst hr
       exact Hid.mk ⟨(spec_SceneOk_l0_X a0 (.inr ())).2,Wk.ofk [] hk (by rfl) (by simp -implicitDefEqProofs [spec_SceneOk_l0_X,h_3,h_4,h_5,h_6,h_7,h_8,h_9,h_10,h_11]) (by simp -implicitDefEqProofs [spec_SceneOk_l0_X,h_3,h_4,h_5,h_6,h_7,h_8,h_9,h_10,h_11]),hR⟩
     ·replace H := HS.cnd_f h_8 H
      try simp -implicitDefEqProofs (maxSteps := 999999) [-selQ_sel,h_3,h_4,h_5,h_6,h_7,h_8]
      have hr := (HS.some H).symm; subst hr
      exact Hid.mk ⟨(spec_SceneOk_l0_X a0 (.inr ())).2,Wk.ofk [] hk (by rfl) (by simp -implicitDefEqProofs [spec_SceneOk_l0_X,h_3,h_4,h_5,h_6,h_7,h_8]) (by simp -implicitDefEqProofs [spec_SceneOk_l0_X,h_3,h_4,h_5,h_6,h_7,h_8]),hR⟩
    ·replace H := HS.cnd_f h_6 H
     try simp -implicitDefEqProofs (maxSteps := 999999) [-selQ_sel,h_3,h_4,h_5,h_6]
     have hr := (HS.some H).symm; subst hr
     exact Hid.mk ⟨(spec_SceneOk_l0_X a0 (.inr ())).2,Wk.ofk [] hk (by rfl) (by simp -implicitDefEqProofs [spec_SceneOk_l0_X,h_3,h_4,h_5,h_6]) (by simp -implicitDefEqProofs [spec_SceneOk_l0_X,h_3,h_4,h_5,h_6]),hR⟩
  ·rcases q with ⟨⟩ | ⟨⟩
   ·dsimp only at H
    try simp -implicitDefEqProofs (maxSteps := 999999) [-selQ_sel,h_1,spec_SceneOk_l0_X]
    have hr := (HS.some H).symm; subst hr
    refine Hid.mk ⟨_,Wk.refl _,?_⟩
    try simp -implicitDefEqProofs (maxSteps := 999999) [-selQ_sel,h_1]
   ·dsimp only at H
    try simp -implicitDefEqProofs (maxSteps := 999999) [-selQ_sel,h_1,spec_SceneOk_l0_X]
    have hr := (HS.some H).symm; subst hr
    refine Hid.mk ⟨_,Wk.refl _,?_⟩
    try simp -implicitDefEqProofs (maxSteps := 999999) [-selQ_sel,h_1]
 ·replace H := HS.cnd_f h_1 H
  try simp -implicitDefEqProofs (maxSteps := 999999) [-selQ_sel,h_1]
  have hr := (HS.some H).symm; subst hr
  refine Hid.mk ⟨_,Wk.refl _,?_⟩
  try simp -implicitDefEqProofs (maxSteps := 999999) [-selQ_sel,h_1]
theorem slices_DeleteFunc_Node_DropNode_1R_ok0 (hm : Try.prog.follows .mixedOrders = true) (k_slices_IndexFunc_Node_DropNode_1R : Sound Try.prog 48 slices_IndexFunc_Node_DropNode_1R_x) (k_impl_DropNode_1R : Sound Try.prog 77 impl_DropNode_1R_x) : Sound Try.prog 76 slices_DeleteFunc_Node_DropNode_1R_x := by
 refine xOf_sound fun q r h => ?_
 obtain ⟨a0,a1⟩ := q
 refine fn_ok E0 hm Try.func76 rfl (by decide +kernel) (by rfl) fun Γ hn hk => ?_
 dsimp only [slices_DeleteFunc_Node_DropNode_1R_e,slices_DeleteFunc_Node_DropNode_1R_v]
 replace hn : Γ.n = 42 := hn
 replace hk : Γ.k = 2 := hk
 have H : HS (slices_DeleteFunc_Node_DropNode_1R a0 a1) r := h
 clear h; unfold slices_DeleteFunc_Node_DropNode_1R at H
 try simp -implicitDefEqProofs at H
 refine Tr.of_vc (cl := tabC [(48,slices_IndexFunc_Node_DropNode_1R_x),(77,impl_DropNode_1R_x)]) (E := E0) [] (tab_cons k_slices_IndexFunc_Node_DropNode_1R (tab_cons k_impl_DropNode_1R tab_nil)) hm (by rw [hn]; decide +kernel) ?_
 try simp -implicitDefEqProofs (maxSteps := 999999) [-selQ_sel]
 obtain ⟨v1,h_1,H⟩ := HS.bnd H
 try simp -implicitDefEqProofs (maxSteps := 999999) [-selQ_sel,h_1]
 refine Hid.brV (fun h_2 => ?_) (fun h_2 => ?_)
 ·replace H := HS.cnd_t h_2 H
  try simp -implicitDefEqProofs (maxSteps := 999999) [-selQ_sel,h_1,h_2]
  have hr := (HS.some H).symm; subst hr
  refine Hid.mk ⟨⟨[(4,AV.osl 0 0 (List.length a0) (List.length a0))],[(0,Ob.arr 31 (List.map eNodeR a0) false),(1,Ob.box [AV.fsl (List.map (AV.int .i64) a1)])],2⟩,Wk.ofk [0,1] hk (by rfl) (by simp -implicitDefEqProofs [h_1,h_2]) (by simp -implicitDefEqProofs [h_1,h_2]),?_⟩
  try simp -implicitDefEqProofs (maxSteps := 999999) [-selQ_sel,h_1,h_2]
 ·replace H := HS.cnd_f h_2 H
  try simp -implicitDefEqProofs (maxSteps := 999999) [-selQ_sel,h_1,h_2]
  obtain ⟨q,h_3,H⟩ := HS.bnd H
  refine Hid.mk (Tr.weak (s' := (slices_DeleteFunc_Node_DropNode_1R_l0_S a1) ((IntKind.i64.wrap (v1 + 1)),v1,a0)) (Wk.ofk [0,1] hk (by rfl) (by simp -implicitDefEqProofs [slices_DeleteFunc_Node_DropNode_1R_l0_S,h_1,h_2]) (by simp -implicitDefEqProofs [slices_DeleteFunc_Node_DropNode_1R_l0_S,h_1,h_2])) ?_)
  refine wp_loop_of (S := (slices_DeleteFunc_Node_DropNode_1R_l0_S a1)) (f := (slices_DeleteFunc_Node_DropNode_1R_l0 a1)) (xt := (slices_DeleteFunc_Node_DropNode_1R_l0_X a1)) ?_ ?_ h_3 ?_
  ·intro q; rcases q with ⟨y13,y14⟩ <;> simp [slices_DeleteFunc_Node_DropNode_1R_l0_X]
  ·clear H h_3 q
   rintro ⟨x6,x7,x8⟩ o R hf hR
   have H : HS (slices_DeleteFunc_Node_DropNode_1R_l0 a1 (x6,x7,x8)) o := hf
   clear hf; unfold slices_DeleteFunc_Node_DropNode_1R_l0 at H
   try simp -implicitDefEqProofs at H
   refine Tr.of_vc (cl := tabC [(48,slices_IndexFunc_Node_DropNode_1R_x),(77,impl_DropNode_1R_x)]) (E := E0) [] (tab_cons k_slices_IndexFunc_Node_DropNode_1R (tab_cons k_impl_DropNode_1R tab_nil)) hm (by rw [hn]; decide +kernel) ?_
   try simp -implicitDefEqProofs (maxSteps := 999999) [-selQ_sel,slices_DeleteFunc_Node_DropNode_1R_l0_S]
   refine Hid.brV (fun h_4 => ?_) (fun h_4 => ?_)
   ·replace H := HS.cnd_t h_4 H
    try simp -implicitDefEqProofs (maxSteps := 999999) [-selQ_sel,h_4]
    have hr := (HS.some H).symm; subst hr
    exact Hid.mk ⟨(slices_DeleteFunc_Node_DropNode_1R_l0_X a1 (x8,x7)).2,Wk.ofk [0,1] hk (by rfl) (by simp -implicitDefEqProofs [slices_DeleteFunc_Node_DropNode_1R_l0_X,h_4]) (by simp -implicitDefEqProofs [slices_DeleteFunc_Node_DropNode_1R_l0_X,h_4]),hR⟩
   ·replace H := HS.cnd_f h_4 H
    try simp -implicitDefEqProofs (maxSteps := 999999) [-selQ_sel,h_4]
    obtain ⟨v9,h_5,H⟩ := HS.bnd H
    have g_6 := idx_get h_5
    try simp -implicitDefEqProofs (maxSteps := 999999) [-selQ_sel,h_4,h_5,g_6]
    obtain ⟨v10,h_7,H⟩ := HS.bnd H
    try simp -implicitDefEqProofs (maxSteps := 999999) [-selQ_sel,h_4,h_5,g_6,h_7]
    refine Hid.brV (fun h_8 => ?_) (fun h_8 => ?_)
    ·replace H := HS.cnd_t h_8 H
     try simp -implicitDefEqProofs (maxSteps := 999999) [-selQ_sel,h_4,h_5,g_6,h_7,h_8]
     have hr := (HS.some H).symm; subst hr
     exact Hid.mk ⟨slices_DeleteFunc_Node_DropNode_1R_l0_S a1 ((IntKind.i64.wrap (x6 + 1)),x7,x8),Wk.ofk [0,1] hk (by rfl) (by simp -implicitDefEqProofs [slices_DeleteFunc_Node_DropNode_1R_l0_S,h_4,h_5,g_6,h_7,h_8]) (by simp -implicitDefEqProofs [slices_DeleteFunc_Node_DropNode_1R_l0_S,h_4,h_5,g_6,h_7,h_8]),hR⟩
    ·replace H := HS.cnd_f h_8 H
     try simp -implicitDefEqProofs (maxSteps := 999999) [-selQ_sel,h_4,h_5,g_6,h_7,h_8]
     obtain ⟨v11,h_9,H⟩ := HS.bnd H
     have g_10 := idx_get h_9
     try simp -implicitDefEqProofs (maxSteps := 999999) [-selQ_sel,h_4,h_5,g_6,h_7,h_8,h_9,g_10]
     obtain ⟨l12,h_11,H⟩ := HS.nam H
     have m_12 := congrArg (List.map eNodeR) h_11
     have q_13 := congrArg List.length h_11
     simp -implicitDefEqProofs at m_12 q_13
     try simp only [q_13] at m_12
     try simp only [q_13] at g_10
     try simp -implicitDefEqProofs (maxSteps := 999999) [-selQ_sel,h_4,h_5,g_6,h_7,h_8,h_9,g_10,m_12,q_13]
     have hr := (HS.some H).symm; subst hr
     exact Hid.mk ⟨slices_DeleteFunc_Node_DropNode_1R_l0_S a1 ((IntKind.i64.wrap (x6 + 1)),(IntKind.i64.wrap (x7 + 1)),l12),Wk.ofk [0,1] hk (by rfl) (by simp -implicitDefEqProofs [slices_DeleteFunc_Node_DropNode_1R_l0_S,h_4,h_5,g_6,h_7,h_8,h_9,g_10,m_12,q_13]) (by simp -implicitDefEqProofs [slices_DeleteFunc_Node_DropNode_1R_l0_S,h_4,h_5,g_6,h_7,h_8,h_9,g_10,m_12,q_13]),hR⟩
  ·obtain ⟨y13,y14⟩ := q
   try dsimp only at H
   try simp -implicitDefEqProofs (maxSteps := 999999) [-selQ_sel,h_1,h_2,slices_DeleteFunc_Node_DropNode_1R_l0_X]
   obtain ⟨v15,h_14,H⟩ := HS.bnd H
   have s_15 := (slc_spec h_14).1
   have s_16 := slc_fit h_14
   have s_17 := slc_map (e := eNodeR) h_14
   have s_18 := (slc_spec h_14).2.1
   simp -implicitDefEqProofs at s_15 s_16 s_17 s_18
   try simp only [s_18] at s_16 s_17
   try simp -implicitDefEqProofs (maxSteps := 999999) [-selQ_sel,h_1,h_2,h_14,s_15,s_16,s_17,s_18]
   obtain ⟨l16,h_19,H⟩ := HS.nam H
   have m_20 := congrArg (List.map eNodeR) h_19
   have q_21 := congrArg List.length h_19
   rw [clrL_len (by simp -implicitDefEqProofs [h_1,h_2,h_14,s_15,s_16,s_17,s_18])] at q_21
   simp -implicitDefEqProofs at m_20 q_21
   try simp only [q_21] at m_20
   try simp only [q_21] at s_18
   try simp only [q_21] at s_15
   try simp only [q_21] at s_16
   try simp only [q_21] at s_17
   try simp -implicitDefEqProofs (maxSteps := 999999) [-selQ_sel,h_1,h_2,h_14,s_15,s_16,s_17,s_18,m_20,q_21]
   obtain ⟨v17,h_22,H⟩ := HS.bnd H
   have s_23 := (slc_spec h_22).1
   have s_24 := slc_fit h_22
   have s_25 := slc_map (e := eNodeR) h_22
   have s_26 := (slc_spec h_22).2.1
   simp -implicitDefEqProofs at s_23 s_24 s_25 s_26
   try simp only [s_26] at s_24 s_25
   try simp -implicitDefEqProofs (maxSteps := 999999) [-selQ_sel,h_1,h_2,h_14,s_15,s_16,s_17,s_18,m_20,q_21,h_22,s_23,s_24,s_25,s_26]
   have hr := (HS.some H).symm; subst hr
   refine Hid.mk ⟨⟨[(4,AV.osl 0 0 (List.length v17) (List.length l16))],[(0,Ob.arr 31 (List.map eNodeR l16) false),(1,Ob.box [AV.fsl (List.map (AV.int .i64) a1)])],2⟩,Wk.ofk [0,1] hk (by rfl) (by simp -implicitDefEqProofs [h_1,h_2,h_14,s_15,s_16,s_17,s_18,m_20,q_21,h_22,s_23,s_24,s_25,s_26]) (by simp -implicitDefEqProofs [h_1,h_2,h_14,s_15,s_16,s_17,s_18,m_20,q_21,h_22,s_23,s_24,s_25,s_26]),?_⟩
   try simp -implicitDefEqProofs (maxSteps := 999999) [-selQ_sel,h_1,h_2,h_14,s_15,s_16,s_17,s_18,m_20,q_21,h_22,s_23,s_24,s_25,s_26]
theorem spec_PaintOk_ok0 (hm : Try.prog.follows .mixedOrders = true) (k_spec_ColorOk : Sound Try.prog 126 spec_ColorOk_x) (k_spec_PointOk : Sound Try.prog 125 spec_PointOk_x) : Sound Try.prog 103 spec_PaintOk_x := by
 refine xOf_sound fun q r h => ?_
 revert h; revert r; revert q; intro a0 r h
 refine fn_ok E0 hm Try.func103 rfl (by decide +kernel) (by rfl) fun Γ hn hk => ?_
 dsimp only [spec_PaintOk_e,spec_PaintOk_v]
 replace hn : Γ.n = 55 := hn
 replace hk : Γ.k = 0 := hk
 have H : HS (spec_PaintOk a0) r := h
 clear h; unfold spec_PaintOk at H
 try simp -implicitDefEqProofs at H
 refine Tr.of_vc (cl := tabC [(126,spec_ColorOk_x),(125,spec_PointOk_x)]) (E := E0) [] (tab_cons k_spec_ColorOk (tab_cons k_spec_PointOk tab_nil)) hm (by rw [hn]; decide +kernel) ?_
 try simp -implicitDefEqProofs (maxSteps := 999999) [-selQ_sel]
 obtain ⟨v1,h_1,H⟩ := HS.bnd H
 try simp -implicitDefEqProofs (maxSteps := 999999) [-selQ_sel,h_1]
 refine Hid.brV (fun h_2 => ?_) (fun h_2 => ?_)
 ·replace H := HS.cnd_t h_2 H
  try simp -implicitDefEqProofs (maxSteps := 999999) [-selQ_sel,h_1,h_2]
  refine Hid.brV (fun h_3 => ?_) (fun h_3 => ?_)
  ·replace H := HS.cnd_t h_3 H
   try simp -implicitDefEqProofs (maxSteps := 999999) [-selQ_sel,h_1,h_2,h_3]
   refine Hid.selQ (fun h_4 => ?_) (fun h_4 => ?_)
   ·replace H := HS.cnd_t h_4 H
    try simp -implicitDefEqProofs (maxSteps := 999999) [-selQ_sel,h_1,h_2,h_3,h_4]
    refine Hid.selQ (fun h_5 => ?_) (fun h_5 => ?_)
    ·replace H := HS.cnd_t h_5 H
     try simp -implicitDefEqProofs (maxSteps := 999999) [-selQ_sel,h_1,h_2,h_3,h_4,h_5]
     have hr := (HS.some H).symm; subst hr
     refine Hid.mk ⟨_,Wk.refl _,?_⟩
     try simp -implicitDefEqProofs (maxSteps := 999999) [-selQ_sel,h_1,h_2,h_3,h_4,h_5]
    ·replace H := HS.cnd_f h_5 H
     try simp -implicitDefEqProofs (maxSteps := 999999) [-selQ_sel,h_1,h_2,h_3,h_4,h_5]
     have hr := (HS.some H).symm; subst hr
     refine Hid.mk ⟨_,Wk.refl _,?_⟩
     try simp -implicitDefEqProofs (maxSteps := 999999) [-selQ_sel,h_1,h_2,h_3,h_4,h_5]
   ·replace H := HS.cnd_f h_4 H
    try simp -implicitDefEqProofs (maxSteps := 999999) [-selQ_sel,h_1,h_2,h_3,h_4]
    have hr := (HS.some H).symm; subst hr
    refine Hid.mk ⟨_,Wk.refl _,?_⟩
    try simp -implicitDefEqProofs (maxSteps := 999999) [-selQ_sel,h_1,h_2,h_3,h_4]
  ·replace H := HS.cnd_f h_3 H
   try simp -implicitDefEqProofs (maxSteps := 999999) [-selQ_sel,h_1,h_2,h_3]
   refine Hid.selQ (fun h_6 => ?_) (fun h_6 => ?_)
   ·replace H := HS.cnd_t h_6 H
    try simp -implicitDefEqProofs (maxSteps := 999999) [-selQ_sel,h_1,h_2,h_3,h_6]
    obtain ⟨v2,h_7,H⟩ := HS.bnd H
    try simp -implicitDefEqProofs (maxSteps := 999999) [-selQ_sel,h_1,h_2,h_3,h_6,h_7]
    refine Hid.selQ (fun h_8 => ?_) (fun h_8 => ?_)
    ·replace H := HS.cnd_t h_8 H
     try simp -implicitDefEqProofs (maxSteps := 999999) [-selQ_sel,h_1,h_2,h_3,h_6,h_7,h_8]
     obtain ⟨v3,h_9,H⟩ := HS.bnd H
     try simp -implicitDefEqProofs (maxSteps := 999999) [-selQ_sel,h_1,h_2,h_3,h_6,h_7,h_8,h_9]
     refine Hid.selQ (fun h_10 => ?_) (fun h_10 => ?_)
     ·replace H := HS.cnd_t h_10 H
      try simp -implicitDefEqProofs (maxSteps := 999999) [-selQ_sel,h_1,h_2,h_3,h_6,h_7,h_8,h_9,h_10]
      obtain ⟨v4,h_11,H⟩ := HS.bnd H
      try simp -implicitDefEqProofs (maxSteps := 999999) [-selQ_sel,h_1,h_2,h_3,h_6,h_7,h_8,h_9,h_10,h_11]
      refine Hid.selQ (fun h_12 => ?_) (fun h_12 => ?_)
      ·replace H := HS.cnd_t h_12 H
       try simp -implicitDefEqProofs (maxSteps := 999999) [-selQ_sel,h_1,h_2,h_3,h_6,h_7,h_8,h_9,h_10,h_11,h_12]
       have hr := (HS.some H).symm; subst hr
       refine Hid.mk ⟨_,Wk.refl _,?_⟩
       try simp -implicitDefEqProofs (maxSteps := 999999) [-selQ_sel,h_1,h_2,h_3,h_6,h_7,h_8,h_9,h_10,h_11,h_12]
      ·replace H := HS.cnd_f h_12 H
       try simp -implicitDefEqProofs (maxSteps := 999999) [-selQ_sel,h_1,h_2,h_3,h_6,h_7,h_8,h_9,h_10,h_11,h_12]
       have hr := (HS.some H).symm; subst hr
       refine Hid.mk ⟨_,Wk.refl _,?_⟩
       try simp -implicitDefEqProofs (maxSteps := 999999) [-selQ_sel,h_1,h_2,h_3,h_6,h_7,h_8,h_9,h_10,h_11,h_12]
     ·replace H := HS.cnd_f h_10 H
      try simp -implicitDefEqProofs (maxSteps := 999999) [-selQ_sel,h_1,h_2,h_3,h_6,h_7,h_8,h_9,h_10]
      have hr := (HS.some H).symm; subst hr
      refine Hid.mk ⟨_,Wk.refl _,?_⟩
      try simp -implicitDefEqProofs (maxSteps := 999999) [-selQ_sel,h_1,h_2,h_3,h_6,h_7,h_8,h_9,h_10]
    ·replace H := HS.cnd_f h_8 H
     try simp -implicitDefEqProofs (maxSteps := 999999) [-selQ_sel,h_1,h_2,h_3,h_6,h_7,h_8]
     have hr := (HS.some H).symm; subst hr
     refine Hid.mk ⟨_,Wk.refl _,?_⟩
     try simp -implicitDefEqProofs (maxSteps := 999999) [-selQ_sel,h_1,h_2,h_3,h_6,h_7,h_8]
   ·replace H := HS.cnd_f h_6 H
    try simp -implicitDefEqProofs (maxSteps := 999999) [-selQ_sel,h_1,h_2,h_3,h_6]
    have hr := (HS.some H).symm; subst hr
    refine Hid.mk ⟨_,Wk.refl _,?_⟩
    try simp -implicitDefEqProofs (maxSteps := 999999) [-selQ_sel,h_1,h_2,h_3,h_6]
 ·replace H := HS.cnd_f h_2 H
  try simp -implicitDefEqProofs (maxSteps := 999999) [-selQ_sel,h_1,h_2]
  have hr := (HS.some H).symm; subst hr
  refine Hid.mk ⟨_,Wk.refl _,?_⟩
  try simp -implicitDefEqProofs (maxSteps := 999999) [-selQ_sel,h_1,h_2]
theorem impl_DepthOf_ok0 (hm : Try.prog.follows .mixedOrders = true) (k_impl_NodeAt : Sound Try.prog 13 impl_NodeAt_x) : Sound Try.prog 42 impl_DepthOf_x := by
 refine xOf_sound fun q r h => ?_
 obtain ⟨a0,a1⟩ := q
 refine fn_ok E0 hm Try.func42 rfl (by decide +kernel) (by rfl) fun Γ hn hk => ?_
 dsimp only [impl_DepthOf_e,impl_DepthOf_v]
 replace hn : Γ.n = 27 := hn
 replace hk : Γ.k = 0 := hk
 have H : HS (impl_DepthOf a0 a1) r := h
 clear h; unfold impl_DepthOf at H
 try simp -implicitDefEqProofs at H
 refine Tr.of_vc (cl := tabC [(13,impl_NodeAt_x)]) (E := E0) [] (tab_cons k_impl_NodeAt tab_nil) hm (by rw [hn]; decide +kernel) ?_
 try simp -implicitDefEqProofs (maxSteps := 999999) [-selQ_sel]
 refine Hid.brV (fun h_1 => ?_) (fun h_1 => ?_)
 ·replace H := HS.cnd_t h_1 H
  try simp -implicitDefEqProofs (maxSteps := 999999) [-selQ_sel,h_1]
  have hr := (HS.some H).symm; subst hr
  refine Hid.mk ⟨_,Wk.refl _,?_⟩
  try simp -implicitDefEqProofs (maxSteps := 999999) [-selQ_sel,h_1]
 ·replace H := HS.cnd_f h_1 H
  try simp -implicitDefEqProofs (maxSteps := 999999) [-selQ_sel,h_1]
  obtain ⟨q,h_2,H⟩ := HS.bnd H
  refine Hid.mk (Tr.weak (s' := (impl_DepthOf_l0_S a0) (a1,1)) (Wk.ofk [0] hk (by rfl) (by simp -implicitDefEqProofs [impl_DepthOf_l0_S,h_1]) (by simp -implicitDefEqProofs [impl_DepthOf_l0_S,h_1])) ?_)
  refine wp_loop_of (S := (impl_DepthOf_l0_S a0)) (f := (impl_DepthOf_l0 a0)) (xt := (impl_DepthOf_l0_X a0)) ?_ ?_ h_2 ?_
  ·intro q; rcases q with y7 | ⟨⟩ <;> simp [impl_DepthOf_l0_X]
  ·clear H h_2 q
   rintro ⟨x3,x4⟩ o R hf hR
   have H : HS (impl_DepthOf_l0 a0 (x3,x4)) o := hf
   clear hf; unfold impl_DepthOf_l0 at H
   try simp -implicitDefEqProofs at H
   refine Tr.of_vc (cl := tabC [(13,impl_NodeAt_x)]) (E := E0) [] (tab_cons k_impl_NodeAt tab_nil) hm (by rw [hn]; decide +kernel) ?_
   try simp -implicitDefEqProofs (maxSteps := 999999) [-selQ_sel,impl_DepthOf_l0_S]
   refine Hid.brV (fun h_3 => ?_) (fun h_3 => ?_)
   ·replace H := HS.cnd_t h_3 H
    try simp -implicitDefEqProofs (maxSteps := 999999) [-selQ_sel,h_3]
    obtain ⟨v5,h_4,H⟩ := HS.bnd H
    try simp -implicitDefEqProofs (maxSteps := 999999) [-selQ_sel,h_3,h_4]
    refine Hid.brV (fun h_5 => ?_) (fun h_5 => ?_)
    ·replace H := HS.cnd_t h_5 H
     try simp -implicitDefEqProofs (maxSteps := 999999) [-selQ_sel,h_3,h_4,h_5]
     obtain ⟨v6,h_6,H⟩ := HS.bnd H
     try simp -implicitDefEqProofs (maxSteps := 999999) [-selQ_sel,h_3,h_4,h_5,h_6]
     refine Hid.brV (fun h_7 => ?_) (fun h_7 => ?_)
     ·replace H := HS.cnd_t h_7 H
      try simp -implicitDefEqProofs (maxSteps := 999999) [-selQ_sel,h_3,h_4,h_5,h_6,h_7]
      have hr := (HS.some H).symm; subst hr
      exact Hid.mk ⟨(impl_DepthOf_l0_X a0 (.inl x4)).2,Wk.ofk [] hk (by rfl) (by simp -implicitDefEqProofs [impl_DepthOf_l0_X,h_3,h_4,h_5,h_6,h_7]) (by simp -implicitDefEqProofs [impl_DepthOf_l0_X,h_3,h_4,h_5,h_6,h_7]),hR⟩
     ·replace H := HS.cnd_f h_7 H
      try simp -implicitDefEqProofs (maxSteps := 999999) [-selQ_sel,h_3,h_4,h_5,h_6,h_7]
      have hr := (HS.some H).symm; subst hr
      exact Hid.mk ⟨impl_DepthOf_l0_S a0 (v6.parent,(IntKind.i64.wrap (x4 + 1))),Wk.ofk [0] hk (by rfl) (by simp -implicitDefEqProofs [impl_DepthOf_l0_S,h_3,h_4,h_5,h_6,h_7]) (by simp -implicitDefEqProofs [impl_DepthOf_l0_S,h_3,h_4,h_5,h_6,h_7]),hR⟩
    ·replace H := HS.cnd_f h_5 H
     try simp -implicitDefEqProofs (maxSteps := 999999) [-selQ_sel,h_3,h_4,h_5]
     have hr := (HS.some H).symm; subst hr
     exact Hid.mk ⟨(impl_DepthOf_l0_X a0 (.inl 0)).2,Wk.ofk [] hk (by rfl) (by simp -implicitDefEqProofs [impl_DepthOf_l0_X,h_3,h_4,h_5]) (by simp -implicitDefEqProofs [impl_DepthOf_l0_X,h_3,h_4,h_5]),hR⟩
   ·replace H := HS.cnd_f h_3 H
    try simp -implicitDefEqProofs (maxSteps := 999999) [-selQ_sel,h_3]
    have hr := (HS.some H).symm; subst hr
    exact Hid.mk ⟨(impl_DepthOf_l0_X a0 (.inr ())).2,Wk.ofk [] hk (by rfl) (by simp -implicitDefEqProofs [impl_DepthOf_l0_X,h_3]) (by simp -implicitDefEqProofs [impl_DepthOf_l0_X,h_3]),hR⟩
  ·rcases q with y7 | ⟨⟩
   ·dsimp only at H
    try simp -implicitDefEqProofs (maxSteps := 999999) [-selQ_sel,h_1,impl_DepthOf_l0_X]
    have hr := (HS.some H).symm; subst hr
    refine Hid.mk ⟨_,Wk.refl _,?_⟩
    try simp -implicitDefEqProofs (maxSteps := 999999) [-selQ_sel,h_1]
   ·dsimp only at H
    try simp -implicitDefEqProofs (maxSteps := 999999) [-selQ_sel,h_1,impl_DepthOf_l0_X]
    have hr := (HS.some H).symm; subst hr
    refine Hid.mk ⟨_,Wk.refl _,?_⟩
    try simp -implicitDefEqProofs (maxSteps := 999999) [-selQ_sel,h_1]
theorem laws_eqNodeS_ok0 (hm : Try.prog.follows .mixedOrders = true) (k_laws_eqNode : Sound Try.prog 23 laws_eqNode_x) : Sound Try.prog 65 laws_eqNodeS_x := by
 refine xOf_sound fun q r h => ?_
 obtain ⟨a0,a1⟩ := q
 refine fn_ok E0 hm Try.func65 rfl (by decide +kernel) (by rfl) fun Γ hn hk => ?_
 dsimp only [laws_eqNodeS_e,laws_eqNodeS_v]
 replace hn : Γ.n = 27 := hn
 replace hk : Γ.k = 0 := hk
 have H : HS (laws_eqNodeS a0 a1) r := h
 clear h; unfold laws_eqNodeS at H
 try simp -implicitDefEqProofs at H
 refine Tr.of_vc (cl := tabC [(23,laws_eqNode_x)]) (E := E0) [] (tab_cons k_laws_eqNode tab_nil) hm (by rw [hn]; decide +kernel) ?_
 try simp -implicitDefEqProofs +decide (maxSteps := 999999) [-selQ_sel,hokQ_of]
 refine Hid.brV (fun h_1 => ?_) (fun h_1 => ?_)
 ·replace H := HS.cnd_t h_1 H
  try simp -implicitDefEqProofs +decide (maxSteps := 999999) [-selQ_sel,hokQ_of,h_1]
  obtain ⟨q,h_2,H⟩ := HS.bnd H
  refine Hid.mk (Tr.weak (s' := (laws_eqNodeS_l0_S a0 a1) 0) (Wk.ofk [] hk (by rfl) (by simp -implicitDefEqProofs [laws_eqNodeS_l0_S,h_1]) (by simp -implicitDefEqProofs [laws_eqNodeS_l0_S,h_1])) ?_)
  refine wp_loop_of (S := (laws_eqNodeS_l0_S a0 a1)) (f := (laws_eqNodeS_l0 a0 a1)) (xt := (laws_eqNodeS_l0_X a0 a1)) ?_ ?_ h_2 ?_
  ·intro q; rcases q with ⟨⟩ | ⟨⟩ <;> simp [laws_eqNodeS_l0_X]
  ·clear H h_2 q
   rintro x4 o R hf hR
   have H : HS (laws_eqNodeS_l0 a0 a1 x4) o := hf
   clear hf; unfold laws_eqNodeS_l0 at H
   try simp -implicitDefEqProofs at H
   refine Tr.of_vc (cl := tabC [(23,laws_eqNode_x)]) (E := E0) [] (tab_cons k_laws_eqNode tab_nil) hm (by rw [hn]; decide +kernel) ?_
   try simp -implicitDefEqProofs +decide (maxSteps := 999999) [-selQ_sel,hokQ_of,laws_eqNodeS_l0_S]
   refine Hid.brV (fun h_3 => ?_) (fun h_3 => ?_)
   ·replace H := HS.cnd_t h_3 H
    try simp -implicitDefEqProofs +decide (maxSteps := 999999) [-selQ_sel,hokQ_of,h_3]
    have hr := (HS.some H).symm; subst hr
    exact Hid.mk ⟨(laws_eqNodeS_l0_X a0 a1 (.inl ())).2,Wk.ofk [] hk (by rfl) (by simp -implicitDefEqProofs [laws_eqNodeS_l0_X,h_3]) (by simp -implicitDefEqProofs [laws_eqNodeS_l0_X,h_3]),hR⟩
   ·replace H := HS.cnd_f h_3 H
    try simp -implicitDefEqProofs +decide (maxSteps := 999999) [-selQ_sel,hokQ_of,h_3]
    obtain ⟨v5,h_4,H⟩ := HS.bnd H
    try simp -implicitDefEqProofs +decide (maxSteps := 999999) [-selQ_sel,hokQ_of,h_3,h_4]
    obtain ⟨v6,h_5,H⟩ := HS.bnd H
    try simp -implicitDefEqProofs +decide (maxSteps := 999999) [-selQ_sel,hokQ_of,h_3,h_4,h_5]
    obtain ⟨v7,h_6,H⟩ := HS.bnd H
    try simp -implicitDefEqProofs +decide (maxSteps := 999999) [-selQ_sel,hokQ_of,h_3,h_4,h_5,h_6]
    refine Hid.brV (fun h_7 => ?_) (fun h_7 => ?_)
    ·replace H := HS.cnd_t h_7 H
     try simp -implicitDefEqProofs +decide (maxSteps := 999999) [-selQ_sel,hokQ_of,h_3,h_4,h_5,h_6,h_7]
     have hr := (HS.some H).symm; subst hr
     exact Hid.mk ⟨laws_eqNodeS_l0_S a0 a1 (IntKind.i64.wrap (x4 + 1)),Wk.ofk [] hk (by rfl) (by simp -implicitDefEqProofs [laws_eqNodeS_l0_S,h_3,h_4,h_5,h_6,h_7]) (by simp -implicitDefEqProofs [laws_eqNodeS_l0_S,h_3,h_4,h_5,h_6,h_7]),hR⟩
    ·replace H := HS.cnd_f h_7 H
     try simp -implicitDefEqProofs +decide (maxSteps := 999999) [-selQ_sel,hokQ_of,h_3,h_4,h_5,h_6,h_7]
     have hr := (HS.some H).symm; subst hr
     exact Hid.mk ⟨(laws_eqNodeS_l0_X a0 a1 (.inr ())).2,Wk.ofk [] hk (by rfl) (by simp -implicitDefEqProofs [laws_eqNodeS_l0_X,h_3,h_4,h_5,h_6,h_7]) (by simp -implicitDefEqProofs [laws_eqNodeS_l0_X,h_3,h_4,h_5,h_6,h_7]),hR⟩
  ·rcases q with ⟨⟩ | ⟨⟩
   ·dsimp only at H
    try simp -implicitDefEqProofs +decide (maxSteps := 999999) [-selQ_sel,hokQ_of,h_1,laws_eqNodeS_l0_X]
    have hr := (HS.some H).symm; subst hr
    refine Hid.mk ⟨_,Wk.refl _,?_⟩
    try simp -implicitDefEqProofs +decide (maxSteps := 999999) [-selQ_sel,hokQ_of,h_1]
   ·dsimp only at H
    try simp -implicitDefEqProofs +decide (maxSteps := 999999) [-selQ_sel,hokQ_of,h_1,laws_eqNodeS_l0_X]
    have hr := (HS.some H).symm; subst hr
    refine Hid.mk ⟨_,Wk.refl _,?_⟩
    try simp -implicitDefEqProofs +decide (maxSteps := 999999) [-selQ_sel,hokQ_of,h_1]
 ·replace H := HS.cnd_f h_1 H
  try simp -implicitDefEqProofs +decide (maxSteps := 999999) [-selQ_sel,hokQ_of,h_1]
  have hr := (HS.some H).symm; subst hr
  refine Hid.mk ⟨_,Wk.refl _,?_⟩
  try simp -implicitDefEqProofs +decide (maxSteps := 999999) [-selQ_sel,hokQ_of,h_1]
theorem spec_l15Under_ok0 (hm : Try.prog.follows .mixedOrders = true) (k_spec_NodeAt : Sound Try.prog 45 spec_NodeAt_x) : Sound Try.prog 46 spec_l15Under_x := by
 refine xOf_sound fun q r h => ?_
 obtain ⟨a0,a1,a2⟩ := q
 refine fn_ok E0 hm Try.func46 rfl (by decide +kernel) (by rfl) fun Γ hn hk => ?_
 dsimp only [spec_l15Under_e,spec_l15Under_v]
 replace hn : Γ.n = 27 := hn
 replace hk : Γ.k = 0 := hk
 have H : HS (spec_l15Under a0 a1 a2) r := h
 clear h; unfold spec_l15Under at H
 try simp -implicitDefEqProofs at H
 refine Tr.of_vc (cl := tabC [(45,spec_NodeAt_x)]) (E := E0) [] (tab_cons k_spec_NodeAt tab_nil) hm (by rw [hn]; decide +kernel) ?_
 try simp -implicitDefEqProofs (maxSteps := 999999) [-selQ_sel]
 obtain ⟨q,h_1,H⟩ := HS.bnd H
 refine Hid.mk (Tr.weak (s' := (spec_l15Under_l0_S a0 a2) (a1,0)) (Wk.ofk [0] hk (by rfl) (by simp -implicitDefEqProofs [spec_l15Under_l0_S]) (by simp -implicitDefEqProofs [spec_l15Under_l0_S])) ?_)
 refine wp_loop_of (S := (spec_l15Under_l0_S a0 a2)) (f := (spec_l15Under_l0 a0 a2)) (xt := (spec_l15Under_l0_X a0 a2)) ?_ ?_ h_1 ?_
 ·intro q; rcases q with y7 | ⟨⟩ <;> simp [spec_l15Under_l0_X]
 ·clear H h_1 q
  rintro ⟨x3,x4⟩ o R hf hR
  have H : HS (spec_l15Under_l0 a0 a2 (x3,x4)) o := hf
  clear hf; unfold spec_l15Under_l0 at H
  try simp -implicitDefEqProofs at H
  refine Tr.of_vc (cl := tabC [(45,spec_NodeAt_x)]) (E := E0) [] (tab_cons k_spec_NodeAt tab_nil) hm (by rw [hn]; decide +kernel) ?_
  try simp -implicitDefEqProofs (maxSteps := 999999) [-selQ_sel,spec_l15Under_l0_S]
  refine Hid.brV (fun h_2 => ?_) (fun h_2 => ?_)
  ·replace H := HS.cnd_t h_2 H
   try simp -implicitDefEqProofs (maxSteps := 999999) [-selQ_sel,h_2]
   refine Hid.brV (fun h_3 => ?_) (fun h_3 => ?_)
   ·replace H := HS.cnd_t h_3 H
    try simp -implicitDefEqProofs (maxSteps := 999999) [-selQ_sel,h_2,h_3]
    have hr := (HS.some H).symm; subst hr
    exact Hid.mk ⟨(spec_l15Under_l0_X a0 a2 (.inl true)).2,Wk.ofk [] hk (by rfl) (by simp -implicitDefEqProofs [spec_l15Under_l0_X,h_2,h_3]) (by simp -implicitDefEqProofs [spec_l15Under_l0_X,h_2,h_3]),hR⟩
   ·replace H := HS.cnd_f h_3 H
    try simp -implicitDefEqProofs (maxSteps := 999999) [-selQ_sel,h_2,h_3]
    obtain ⟨v5,h_4,H⟩ := HS.bnd H
    try simp -implicitDefEqProofs (maxSteps := 999999) [-selQ_sel,h_2,h_3,h_4]
    refine Hid.brV (fun h_5 => ?_) (fun h_5 => ?_)
    ·replace H := HS.cnd_t h_5 H
     try simp -implicitDefEqProofs (maxSteps := 999999) [-selQ_sel,h_2,h_3,h_4,h_5]
     obtain ⟨v6,h_6,H⟩ := HS.bnd H
     try simp -implicitDefEqProofs (maxSteps := 999999) [-selQ_sel,h_2,h_3,h_4,h_5,h_6]
     have hr := (HS.some H).symm; subst hr
     exact Hid.mk ⟨spec_l15Under_l0_S a0 a2 (v6.parent,(IntKind.i64.wrap (x4 + 1))),Wk.ofk [0] hk (by rfl) (by simp -implicitDefEqProofs [spec_l15Under_l0_S,h_2,h_3,h_4,h_5,h_6]) (by simp -implicitDefEqProofs [spec_l15Under_l0_S,h_2,h_3,h_4,h_5,h_6]),hR⟩
    ·replace H := HS.cnd_f h_5 H
     try simp -implicitDefEqProofs (maxSteps := 999999) [-selQ_sel,h_2,h_3,h_4,h_5]
     have hr := (HS.some H).symm; subst hr
     exact Hid.mk ⟨(spec_l15Under_l0_X a0 a2 (.inl false)).2,Wk.ofk [] hk (by rfl) (by simp -implicitDefEqProofs [spec_l15Under_l0_X,h_2,h_3,h_4,h_5]) (by simp -implicitDefEqProofs [spec_l15Under_l0_X,h_2,h_3,h_4,h_5]),hR⟩
  ·replace H := HS.cnd_f h_2 H
   try simp -implicitDefEqProofs (maxSteps := 999999) [-selQ_sel,h_2]
   have hr := (HS.some H).symm; subst hr
   exact Hid.mk ⟨(spec_l15Under_l0_X a0 a2 (.inr ())).2,Wk.ofk [] hk (by rfl) (by simp -implicitDefEqProofs [spec_l15Under_l0_X,h_2]) (by simp -implicitDefEqProofs [spec_l15Under_l0_X,h_2]),hR⟩
 ·rcases q with y7 | ⟨⟩
  ·dsimp only at H
   try simp -implicitDefEqProofs (maxSteps := 999999) [-selQ_sel,spec_l15Under_l0_X]
   have hr := (HS.some H).symm; subst hr
   refine Hid.mk ⟨_,Wk.refl _,?_⟩
   try simp -implicitDefEqProofs (maxSteps := 999999) [-selQ_sel]
  ·dsimp only at H
   try simp -implicitDefEqProofs (maxSteps := 999999) [-selQ_sel,spec_l15Under_l0_X]
   have hr := (HS.some H).symm; subst hr
   refine Hid.mk ⟨_,Wk.refl _,?_⟩
   try simp -implicitDefEqProofs (maxSteps := 999999) [-selQ_sel]
theorem laws_eqIntS_ok0 (hm : Try.prog.follows .mixedOrders = true) : Sound Try.prog 68 laws_eqIntS_x := by
 refine xOf_sound fun q r h => ?_
 obtain ⟨a0,a1⟩ := q
 refine fn_ok E0 hm Try.func68 rfl (by decide +kernel) (by rfl) fun Γ hn hk => ?_
 dsimp only [laws_eqIntS_e,laws_eqIntS_v]
 replace hn : Γ.n = 26 := hn
 replace hk : Γ.k = 0 := hk
 have H : HS (laws_eqIntS a0 a1) r := h
 clear h; unfold laws_eqIntS at H
 try simp -implicitDefEqProofs at H
 refine Tr.of_vc (cl := tabC []) (E := E0) [] tab_nil hm (by rw [hn]; decide +kernel) ?_
 try simp -implicitDefEqProofs +decide (maxSteps := 999999) [-selQ_sel,hokQ_of]
 refine Hid.brV (fun h_1 => ?_) (fun h_1 => ?_)
 ·replace H := HS.cnd_t h_1 H
  try simp -implicitDefEqProofs +decide (maxSteps := 999999) [-selQ_sel,hokQ_of,h_1]
  obtain ⟨q,h_2,H⟩ := HS.bnd H
  refine Hid.mk (Tr.weak (s' := (laws_eqIntS_l0_S a0 a1) 0) (Wk.ofk [] hk (by rfl) (by simp -implicitDefEqProofs [laws_eqIntS_l0_S,h_1]) (by simp -implicitDefEqProofs [laws_eqIntS_l0_S,h_1])) ?_)
  refine wp_loop_of (S := (laws_eqIntS_l0_S a0 a1)) (f := (laws_eqIntS_l0 a0 a1)) (xt := (laws_eqIntS_l0_X a0 a1)) ?_ ?_ h_2 ?_
  ·intro q; rcases q with ⟨⟩ | ⟨⟩ <;> simp [laws_eqIntS_l0_X]
  ·clear H h_2 q
   rintro x3 o R hf hR
   have H : HS (laws_eqIntS_l0 a0 a1 x3) o := hf
   clear hf; unfold laws_eqIntS_l0 at H
   try simp -implicitDefEqProofs at H
   refine Tr.of_vc (cl := tabC []) (E := E0) [] tab_nil hm (by rw [hn]; decide +kernel) ?_
   try simp -implicitDefEqProofs +decide (maxSteps := 999999) [-selQ_sel,hokQ_of,laws_eqIntS_l0_S]
   refine Hid.brV (fun h_3 => ?_) (fun h_3 => ?_)
   ·replace H := HS.cnd_t h_3 H
    try simp -implicitDefEqProofs +decide (maxSteps := 999999) [-selQ_sel,hokQ_of,h_3]
    have hr := (HS.some H).symm; subst hr
    exact Hid.mk ⟨(laws_eqIntS_l0_X a0 a1 (.inl ())).2,Wk.ofk [] hk (by rfl) (by simp -implicitDefEqProofs [laws_eqIntS_l0_X,h_3]) (by simp -implicitDefEqProofs [laws_eqIntS_l0_X,h_3]),hR⟩
   ·replace H := HS.cnd_f h_3 H
    try simp -implicitDefEqProofs +decide (maxSteps := 999999) [-selQ_sel,hokQ_of,h_3]
    obtain ⟨v4,h_4,H⟩ := HS.bnd H
    try simp -implicitDefEqProofs +decide (maxSteps := 999999) [-selQ_sel,hokQ_of,h_3,h_4]
    obtain ⟨v5,h_5,H⟩ := HS.bnd H
    try simp -implicitDefEqProofs +decide (maxSteps := 999999) [-selQ_sel,hokQ_of,h_3,h_4,h_5]
    refine Hid.brV (fun h_6 => ?_) (fun h_6 => ?_)
    ·replace H := HS.cnd_t h_6 H
     try simp -implicitDefEqProofs +decide (maxSteps := 999999) [-selQ_sel,hokQ_of,h_3,h_4,h_5,h_6]
     have hr := (HS.some H).symm; subst hr
     exact Hid.mk ⟨laws_eqIntS_l0_S a0 a1 (IntKind.i64.wrap (x3 + 1)),Wk.ofk [] hk (by rfl) (by simp -implicitDefEqProofs [laws_eqIntS_l0_S,h_3,h_4,h_5,h_6]) (by simp -implicitDefEqProofs [laws_eqIntS_l0_S,h_3,h_4,h_5,h_6]),hR⟩
    ·replace H := HS.cnd_f h_6 H
     try simp -implicitDefEqProofs +decide (maxSteps := 999999) [-selQ_sel,hokQ_of,h_3,h_4,h_5,h_6]
     have hr := (HS.some H).symm; subst hr
     exact Hid.mk ⟨(laws_eqIntS_l0_X a0 a1 (.inr ())).2,Wk.ofk [] hk (by rfl) (by simp -implicitDefEqProofs [laws_eqIntS_l0_X,h_3,h_4,h_5,h_6]) (by simp -implicitDefEqProofs [laws_eqIntS_l0_X,h_3,h_4,h_5,h_6]),hR⟩
  ·rcases q with ⟨⟩ | ⟨⟩
   ·dsimp only at H
    try simp -implicitDefEqProofs +decide (maxSteps := 999999) [-selQ_sel,hokQ_of,h_1,laws_eqIntS_l0_X]
    have hr := (HS.some H).symm; subst hr
    refine Hid.mk ⟨_,Wk.refl _,?_⟩
    try simp -implicitDefEqProofs +decide (maxSteps := 999999) [-selQ_sel,hokQ_of,h_1]
   ·dsimp only at H
    try simp -implicitDefEqProofs +decide (maxSteps := 999999) [-selQ_sel,hokQ_of,h_1,laws_eqIntS_l0_X]
    have hr := (HS.some H).symm; subst hr
    refine Hid.mk ⟨_,Wk.refl _,?_⟩
    try simp -implicitDefEqProofs +decide (maxSteps := 999999) [-selQ_sel,hokQ_of,h_1]
 ·replace H := HS.cnd_f h_1 H
  try simp -implicitDefEqProofs +decide (maxSteps := 999999) [-selQ_sel,hokQ_of,h_1]
  have hr := (HS.some H).symm; subst hr
  refine Hid.mk ⟨_,Wk.refl _,?_⟩
  try simp -implicitDefEqProofs +decide (maxSteps := 999999) [-selQ_sel,hokQ_of,h_1]
theorem slices_IndexFunc_Node_NodeAt_1_ok0 (hm : Try.prog.follows .mixedOrders = true) (k_impl_NodeAt_1 : Sound Try.prog 49 impl_NodeAt_1_x) : Sound Try.prog 48 slices_IndexFunc_Node_NodeAt_1_x := by
 refine xOf_sound fun q r h => ?_
 obtain ⟨a0,a1⟩ := q
 refine fn_ok E0 hm Try.func48 rfl (by decide +kernel) (by rfl) fun Γ hn hk => ?_
 dsimp only [slices_IndexFunc_Node_NodeAt_1_e,slices_IndexFunc_Node_NodeAt_1_v]
 replace hn : Γ.n = 19 := hn
 replace hk : Γ.k = 0 := hk
 have H : HS (slices_IndexFunc_Node_NodeAt_1 a0 a1) r := h
 clear h; unfold slices_IndexFunc_Node_NodeAt_1 at H
 try simp -implicitDefEqProofs at H
 refine Tr.of_vc (cl := tabC [(49,impl_NodeAt_1_x)]) (E := E0) [] (tab_cons k_impl_NodeAt_1 tab_nil) hm (by rw [hn]; decide +kernel) ?_
 try simp -implicitDefEqProofs (maxSteps := 999999) [-selQ_sel]
 obtain ⟨q,h_1,H⟩ := HS.bnd H
 refine Hid.mk (Tr.weak (s' := (slices_IndexFunc_Node_NodeAt_1_l0_S a0 a1) 0) (Wk.ofk [] hk (by rfl) (by simp -implicitDefEqProofs [slices_IndexFunc_Node_NodeAt_1_l0_S]) (by simp -implicitDefEqProofs [slices_IndexFunc_Node_NodeAt_1_l0_S])) ?_)
 refine wp_loop_of (S := (slices_IndexFunc_Node_NodeAt_1_l0_S a0 a1)) (f := (slices_IndexFunc_Node_NodeAt_1_l0 a0 a1)) (xt := (slices_IndexFunc_Node_NodeAt_1_l0_X a0 a1)) ?_ ?_ h_1 ?_
 ·intro q; rcases q with ⟨⟩ | y6 <;> simp [slices_IndexFunc_Node_NodeAt_1_l0_X]
 ·clear H h_1 q
  rintro x3 o R hf hR
  have H : HS (slices_IndexFunc_Node_NodeAt_1_l0 a0 a1 x3) o := hf
  clear hf; unfold slices_IndexFunc_Node_NodeAt_1_l0 at H
  try simp -implicitDefEqProofs at H
  refine Tr.of_vc (cl := tabC [(49,impl_NodeAt_1_x)]) (E := E0) [] (tab_cons k_impl_NodeAt_1 tab_nil) hm (by rw [hn]; decide +kernel) ?_
  try simp -implicitDefEqProofs (maxSteps := 999999) [-selQ_sel,slices_IndexFunc_Node_NodeAt_1_l0_S]
  refine Hid.brV (fun h_2 => ?_) (fun h_2 => ?_)
  ·replace H := HS.cnd_t h_2 H
   try simp -implicitDefEqProofs (maxSteps := 999999) [-selQ_sel,h_2]
   have hr := (HS.some H).symm; subst hr
   exact Hid.mk ⟨(slices_IndexFunc_Node_NodeAt_1_l0_X a0 a1 (.inl ())).2,Wk.ofk [] hk (by rfl) (by simp -implicitDefEqProofs [slices_IndexFunc_Node_NodeAt_1_l0_X,h_2]) (by simp -implicitDefEqProofs [slices_IndexFunc_Node_NodeAt_1_l0_X,h_2]),hR⟩
  ·replace H := HS.cnd_f h_2 H
   try simp -implicitDefEqProofs (maxSteps := 999999) [-selQ_sel,h_2]
   obtain ⟨v4,h_3,H⟩ := HS.bnd H
   try simp -implicitDefEqProofs (maxSteps := 999999) [-selQ_sel,h_2,h_3]
   obtain ⟨v5,h_4,H⟩ := HS.bnd H
   try simp -implicitDefEqProofs (maxSteps := 999999) [-selQ_sel,h_2,h_3,h_4]
   refine Hid.brV (fun h_5 => ?_) (fun h_5 => ?_)
   ·replace H := HS.cnd_t h_5 H
    try simp -implicitDefEqProofs (maxSteps := 999999) [-selQ_sel,h_2,h_3,h_4,h_5]
    have hr := (HS.some H).symm; subst hr
    exact Hid.mk ⟨(slices_IndexFunc_Node_NodeAt_1_l0_X a0 a1 (.inr x3)).2,Wk.ofk [] hk (by rfl) (by simp -implicitDefEqProofs [slices_IndexFunc_Node_NodeAt_1_l0_X,h_2,h_3,h_4,h_5]) (by simp -implicitDefEqProofs [slices_IndexFunc_Node_NodeAt_1_l0_X,h_2,h_3,h_4,h_5]),hR⟩
   ·replace H := HS.cnd_f h_5 H
    try simp -implicitDefEqProofs (maxSteps := 999999) [-selQ_sel,h_2,h_3,h_4,h_5]
    have hr := (HS.some H).symm; subst hr
    exact Hid.mk ⟨slices_IndexFunc_Node_NodeAt_1_l0_S a0 a1 (IntKind.i64.wrap (x3 + 1)),Wk.ofk [] hk (by rfl) (by simp -implicitDefEqProofs [slices_IndexFunc_Node_NodeAt_1_l0_S,h_2,h_3,h_4,h_5]) (by simp -implicitDefEqProofs [slices_IndexFunc_Node_NodeAt_1_l0_S,h_2,h_3,h_4,h_5]),hR⟩
 ·rcases q with ⟨⟩ | y6
  ·dsimp only at H
   try simp -implicitDefEqProofs (maxSteps := 999999) [-selQ_sel,slices_IndexFunc_Node_NodeAt_1_l0_X]
   have hr := (HS.some H).symm; subst hr
   refine Hid.mk ⟨_,Wk.refl _,?_⟩
   try simp -implicitDefEqProofs (maxSteps := 999999) [-selQ_sel]
  ·dsimp only at H
   try simp -implicitDefEqProofs (maxSteps := 999999) [-selQ_sel,slices_IndexFunc_Node_NodeAt_1_l0_X]
   have hr := (HS.some H).symm; subst hr
   refine Hid.mk ⟨_,Wk.refl _,?_⟩
   try simp -implicitDefEqProofs (maxSteps := 999999) [-selQ_sel]
theorem impl_DashOk_ok0 (hm : Try.prog.follows .mixedOrders = true) (k_impl_inRange : Sound Try.prog 41 impl_inRange_x) : Sound Try.prog 91 impl_DashOk_x := by
 refine xOf_sound fun q r h => ?_
 revert h; revert r; revert q; intro a0 r h
 refine fn_ok E0 hm Try.func91 rfl (by decide +kernel) (by rfl) fun Γ hn hk => ?_
 dsimp only [impl_DashOk_e,impl_DashOk_v]
 replace hn : Γ.n = 24 := hn
 replace hk : Γ.k = 0 := hk
 have H : HS (impl_DashOk a0) r := h
 clear h; unfold impl_DashOk at H
 try simp -implicitDefEqProofs at H
 refine Tr.of_vc (cl := tabC [(41,impl_inRange_x)]) (E := E0) [] (tab_cons k_impl_inRange tab_nil) hm (by rw [hn]; decide +kernel) ?_
 try simp -implicitDefEqProofs (maxSteps := 999999) [-selQ_sel]
 obtain ⟨q,h_1,H⟩ := HS.bnd H
 refine Hid.mk (Tr.weak (s' := (impl_DashOk_l0_S a0) 0) (Wk.ofk [] hk (by rfl) (by simp -implicitDefEqProofs [impl_DashOk_l0_S]) (by simp -implicitDefEqProofs [impl_DashOk_l0_S])) ?_)
 refine wp_loop_of (S := (impl_DashOk_l0_S a0)) (f := (impl_DashOk_l0 a0)) (xt := (impl_DashOk_l0_X a0)) ?_ ?_ h_1 ?_
 ·intro q; rcases q with ⟨⟩ | ⟨⟩ <;> simp [impl_DashOk_l0_X]
 ·clear H h_1 q
  rintro x3 o R hf hR
  have H : HS (impl_DashOk_l0 a0 x3) o := hf
  clear hf; unfold impl_DashOk_l0 at H
  try simp -implicitDefEqProofs at H
  refine Tr.of_vc (cl := tabC [(41,impl_inRange_x)]) (E := E0) [] (tab_cons k_impl_inRange tab_nil) hm (by rw [hn]; decide +kernel) ?_
  try simp -implicitDefEqProofs (maxSteps := 999999) [-selQ_sel,impl_DashOk_l0_S]
  refine Hid.brV (fun h_2 => ?_) (fun h_2 => ?_)
  ·replace H := HS.cnd_t h_2 H
   try simp -implicitDefEqProofs (maxSteps := 999999) [-selQ_sel,h_2]
   have hr := (HS.some H).symm; subst hr
   exact Hid.mk ⟨(impl_DashOk_l0_X a0 (.inl ())).2,Wk.ofk [] hk (by rfl) (by simp -implicitDefEqProofs [impl_DashOk_l0_X,h_2]) (by simp -implicitDefEqProofs [impl_DashOk_l0_X,h_2]),hR⟩
  ·replace H := HS.cnd_f h_2 H
   try simp -implicitDefEqProofs (maxSteps := 999999) [-selQ_sel,h_2]
   obtain ⟨v4,h_3,H⟩ := HS.bnd H
   try simp -implicitDefEqProofs (maxSteps := 999999) [-selQ_sel,h_2,h_3]
   obtain ⟨v5,h_4,H⟩ := HS.bnd H
   try simp -implicitDefEqProofs (maxSteps := 999999) [-selQ_sel,h_2,h_3,h_4]
   refine Hid.brV (fun h_5 => ?_) (fun h_5 => ?_)
   ·replace H := HS.cnd_t h_5 H
    try simp -implicitDefEqProofs (maxSteps := 999999) [-selQ_sel,h_2,h_3,h_4,h_5]
    have hr := (HS.some H).symm; subst hr
    exact Hid.mk ⟨impl_DashOk_l0_S a0 (IntKind.i64.wrap (x3 + 1)),Wk.ofk [] hk (by rfl) (by simp -implicitDefEqProofs [impl_DashOk_l0_S,h_2,h_3,h_4,h_5]) (by simp -implicitDefEqProofs [impl_DashOk_l0_S,h_2,h_3,h_4,h_5]),hR⟩
   ·replace H := HS.cnd_f h_5 H
    try simp -implicitDefEqProofs (maxSteps := 999999) [-selQ_sel,h_2,h_3,h_4,h_5]
    have hr := (HS.some H).symm; subst hr
    exact Hid.mk ⟨(impl_DashOk_l0_X a0 (.inr ())).2,Wk.ofk [] hk (by rfl) (by simp -implicitDefEqProofs [impl_DashOk_l0_X,h_2,h_3,h_4,h_5]) (by simp -implicitDefEqProofs [impl_DashOk_l0_X,h_2,h_3,h_4,h_5]),hR⟩
 ·rcases q with ⟨⟩ | ⟨⟩
  ·dsimp only at H
   try simp -implicitDefEqProofs (maxSteps := 999999) [-selQ_sel,impl_DashOk_l0_X]
   refine Hid.selQ (fun h_6 => ?_) (fun h_6 => ?_)
   ·replace H := HS.cnd_t h_6 H
    try simp -implicitDefEqProofs (maxSteps := 999999) [-selQ_sel,h_6]
    have hr := (HS.some H).symm; subst hr
    refine Hid.mk ⟨_,Wk.refl _,?_⟩
    try simp -implicitDefEqProofs (maxSteps := 999999) [-selQ_sel,h_6]
   ·replace H := HS.cnd_f h_6 H
    try simp -implicitDefEqProofs (maxSteps := 999999) [-selQ_sel,h_6]
    have hr := (HS.some H).symm; subst hr
    refine Hid.mk ⟨_,Wk.refl _,?_⟩
    try simp -implicitDefEqProofs (maxSteps := 999999) [-selQ_sel,h_6]
  ·dsimp only at H
   try simp -implicitDefEqProofs (maxSteps := 999999) [-selQ_sel,impl_DashOk_l0_X]
   have hr := (HS.some H).symm; subst hr
   refine Hid.mk ⟨_,Wk.refl _,?_⟩
   try simp -implicitDefEqProofs (maxSteps := 999999) [-selQ_sel]
theorem laws_eqPaint_ok0 (hm : Try.prog.follows .mixedOrders = true) (k_laws_eqColor : Sound Try.prog 110 laws_eqColor_x) (k_laws_eqPoint : Sound Try.prog 111 laws_eqPoint_x) : Sound Try.prog 69 laws_eqPaint_x := by
 refine xOf_sound fun q r h => ?_
 obtain ⟨a0,a1⟩ := q
 refine fn_ok E0 hm Try.func69 rfl (by decide +kernel) (by rfl) fun Γ hn hk => ?_
 dsimp only [laws_eqPaint_e,laws_eqPaint_v]
 replace hn : Γ.n = 34 := hn
 replace hk : Γ.k = 0 := hk
 have H : HS (laws_eqPaint a0 a1) r := h
 clear h; unfold laws_eqPaint at H
 try simp -implicitDefEqProofs at H
 refine Tr.of_vc (cl := tabC [(110,laws_eqColor_x),(111,laws_eqPoint_x)]) (E := E0) [] (tab_cons k_laws_eqColor (tab_cons k_laws_eqPoint tab_nil)) hm (by rw [hn]; decide +kernel) ?_
 try simp -implicitDefEqProofs (maxSteps := 999999) [-selQ_sel]
 refine Hid.brV (fun h_1 => ?_) (fun h_1 => ?_)
 ·replace H := HS.cnd_t h_1 H
  try simp -implicitDefEqProofs (maxSteps := 999999) [-selQ_sel,h_1]
  obtain ⟨v1,h_2,H⟩ := HS.bnd H
  try simp -implicitDefEqProofs (maxSteps := 999999) [-selQ_sel,h_1,h_2]
  refine Hid.brV (fun h_3 => ?_) (fun h_3 => ?_)
  ·replace H := HS.cnd_t h_3 H
   try simp -implicitDefEqProofs (maxSteps := 999999) [-selQ_sel,h_1,h_2,h_3]
   obtain ⟨v2,h_4,H⟩ := HS.bnd H
   try simp -implicitDefEqProofs (maxSteps := 999999) [-selQ_sel,h_1,h_2,h_3,h_4]
   refine Hid.brV (fun h_5 => ?_) (fun h_5 => ?_)
   ·replace H := HS.cnd_t h_5 H
    try simp -implicitDefEqProofs (maxSteps := 999999) [-selQ_sel,h_1,h_2,h_3,h_4,h_5]
    obtain ⟨v3,h_6,H⟩ := HS.bnd H
    try simp -implicitDefEqProofs (maxSteps := 999999) [-selQ_sel,h_1,h_2,h_3,h_4,h_5,h_6]
    refine Hid.brV (fun h_7 => ?_) (fun h_7 => ?_)
    ·replace H := HS.cnd_t h_7 H
     try simp -implicitDefEqProofs (maxSteps := 999999) [-selQ_sel,h_1,h_2,h_3,h_4,h_5,h_6,h_7]
     obtain ⟨v4,h_8,H⟩ := HS.bnd H
     try simp -implicitDefEqProofs (maxSteps := 999999) [-selQ_sel,h_1,h_2,h_3,h_4,h_5,h_6,h_7,h_8]
     refine Hid.brV (fun h_9 => ?_) (fun h_9 => ?_)
     ·replace H := HS.cnd_t h_9 H
      try simp -implicitDefEqProofs (maxSteps := 999999) [-selQ_sel,h_1,h_2,h_3,h_4,h_5,h_6,h_7,h_8,h_9]
      have hr := (HS.some H).symm; subst hr
      refine Hid.mk ⟨_,Wk.refl _,?_⟩
      try simp -implicitDefEqProofs (maxSteps := 999999) [-selQ_sel,h_1,h_2,h_3,h_4,h_5,h_6,h_7,h_8,h_9]
     ·replace H := HS.cnd_f h_9 H
      try simp -implicitDefEqProofs (maxSteps := 999999) [-selQ_sel,h_1,h_2,h_3,h_4,h_5,h_6,h_7,h_8,h_9]
      have hr := (HS.some H).symm; subst hr
      refine Hid.mk ⟨_,Wk.refl _,?_⟩
      try simp -implicitDefEqProofs (maxSteps := 999999) [-selQ_sel,h_1,h_2,h_3,h_4,h_5,h_6,h_7,h_8,h_9]
    ·replace H := HS.cnd_f h_7 H
     try simp -implicitDefEqProofs (maxSteps := 999999) [-selQ_sel,h_1,h_2,h_3,h_4,h_5,h_6,h_7]
     have hr := (HS.some H).symm; subst hr
     refine Hid.mk ⟨_,Wk.refl _,?_⟩
     try simp -implicitDefEqProofs (maxSteps := 999999) [-selQ_sel,h_1,h_2,h_3,h_4,h_5,h_6,h_7]
   ·replace H := HS.cnd_f h_5 H
    try simp -implicitDefEqProofs (maxSteps := 999999) [-selQ_sel,h_1,h_2,h_3,h_4,h_5]
    have hr := (HS.some H).symm; subst hr
    refine Hid.mk ⟨_,Wk.refl _,?_⟩
    try simp -implicitDefEqProofs (maxSteps := 999999) [-selQ_sel,h_1,h_2,h_3,h_4,h_5]
  ·replace H := HS.cnd_f h_3 H
   try simp -implicitDefEqProofs (maxSteps := 999999) [-selQ_sel,h_1,h_2,h_3]
   have hr := (HS.some H).symm; subst hr
   refine Hid.mk ⟨_,Wk.refl _,?_⟩
   try simp -implicitDefEqProofs (maxSteps := 999999) [-selQ_sel,h_1,h_2,h_3]
 ·replace H := HS.cnd_f h_1 H
  try simp -implicitDefEqProofs (maxSteps := 999999) [-selQ_sel,h_1]
  have hr := (HS.some H).symm; subst hr
  refine Hid.mk ⟨_,Wk.refl _,?_⟩
  try simp -implicitDefEqProofs (maxSteps := 999999) [-selQ_sel,h_1]
theorem impl_pointsOk_ok0 (hm : Try.prog.follows .mixedOrders = true) (k_impl_PointOk : Sound Try.prog 123 impl_PointOk_x) : Sound Try.prog 120 impl_pointsOk_x := by
 refine xOf_sound fun q r h => ?_
 revert h; revert r; revert q; intro a0 r h
 refine fn_ok E0 hm Try.func120 rfl (by decide +kernel) (by rfl) fun Γ hn hk => ?_
 dsimp only [impl_pointsOk_e,impl_pointsOk_v]
 replace hn : Γ.n = 15 := hn
 replace hk : Γ.k = 0 := hk
 have H : HS (impl_pointsOk a0) r := h
 clear h; unfold impl_pointsOk at H
 try simp -implicitDefEqProofs at H
 refine Tr.of_vc (cl := tabC [(123,impl_PointOk_x)]) (E := E0) [] (tab_cons k_impl_PointOk tab_nil) hm (by rw [hn]; decide +kernel) ?_
 try simp -implicitDefEqProofs (maxSteps := 999999) [-selQ_sel]
 obtain ⟨q,h_1,H⟩ := HS.bnd H
 refine Hid.mk (Tr.weak (s' := (impl_pointsOk_l0_S a0) 0) (Wk.ofk [] hk (by rfl) (by simp -implicitDefEqProofs [impl_pointsOk_l0_S]) (by simp -implicitDefEqProofs [impl_pointsOk_l0_S])) ?_)
 refine wp_loop_of (S := (impl_pointsOk_l0_S a0)) (f := (impl_pointsOk_l0 a0)) (xt := (impl_pointsOk_l0_X a0)) ?_ ?_ h_1 ?_
 ·intro q; rcases q with ⟨⟩ | ⟨⟩ <;> simp [impl_pointsOk_l0_X]
 ·clear H h_1 q
  rintro x3 o R hf hR
  have H : HS (impl_pointsOk_l0 a0 x3) o := hf
  clear hf; unfold impl_pointsOk_l0 at H
  try simp -implicitDefEqProofs at H
  refine Tr.of_vc (cl := tabC [(123,impl_PointOk_x)]) (E := E0) [] (tab_cons k_impl_PointOk tab_nil) hm (by rw [hn]; decide +kernel) ?_
  try simp -implicitDefEqProofs (maxSteps := 999999) [-selQ_sel,impl_pointsOk_l0_S]
  refine Hid.brV (fun h_2 => ?_) (fun h_2 => ?_)
  ·replace H := HS.cnd_t h_2 H
   try simp -implicitDefEqProofs (maxSteps := 999999) [-selQ_sel,h_2]
   have hr := (HS.some H).symm; subst hr
   exact Hid.mk ⟨(impl_pointsOk_l0_X a0 (.inl ())).2,Wk.ofk [] hk (by rfl) (by simp -implicitDefEqProofs [impl_pointsOk_l0_X,h_2]) (by simp -implicitDefEqProofs [impl_pointsOk_l0_X,h_2]),hR⟩
  ·replace H := HS.cnd_f h_2 H
   try simp -implicitDefEqProofs (maxSteps := 999999) [-selQ_sel,h_2]
   obtain ⟨v4,h_3,H⟩ := HS.bnd H
   try simp -implicitDefEqProofs (maxSteps := 999999) [-selQ_sel,h_2,h_3]
   obtain ⟨v5,h_4,H⟩ := HS.bnd H
   try simp -implicitDefEqProofs (maxSteps := 999999) [-selQ_sel,h_2,h_3,h_4]
   refine Hid.brV (fun h_5 => ?_) (fun h_5 => ?_)
   ·replace H := HS.cnd_t h_5 H
    try simp -implicitDefEqProofs (maxSteps := 999999) [-selQ_sel,h_2,h_3,h_4,h_5]
    have hr := (HS.some H).symm; subst hr
    exact Hid.mk ⟨impl_pointsOk_l0_S a0 (IntKind.i64.wrap (x3 + 1)),Wk.ofk [] hk (by rfl) (by simp -implicitDefEqProofs [impl_pointsOk_l0_S,h_2,h_3,h_4,h_5]) (by simp -implicitDefEqProofs [impl_pointsOk_l0_S,h_2,h_3,h_4,h_5]),hR⟩
   ·replace H := HS.cnd_f h_5 H
    try simp -implicitDefEqProofs (maxSteps := 999999) [-selQ_sel,h_2,h_3,h_4,h_5]
    have hr := (HS.some H).symm; subst hr
    exact Hid.mk ⟨(impl_pointsOk_l0_X a0 (.inr ())).2,Wk.ofk [] hk (by rfl) (by simp -implicitDefEqProofs [impl_pointsOk_l0_X,h_2,h_3,h_4,h_5]) (by simp -implicitDefEqProofs [impl_pointsOk_l0_X,h_2,h_3,h_4,h_5]),hR⟩
 ·rcases q with ⟨⟩ | ⟨⟩
  ·dsimp only at H
   try simp -implicitDefEqProofs (maxSteps := 999999) [-selQ_sel,impl_pointsOk_l0_X]
   have hr := (HS.some H).symm; subst hr
   refine Hid.mk ⟨_,Wk.refl _,?_⟩
   try simp -implicitDefEqProofs (maxSteps := 999999) [-selQ_sel]
  ·dsimp only at H
   try simp -implicitDefEqProofs (maxSteps := 999999) [-selQ_sel,impl_pointsOk_l0_X]
   have hr := (HS.some H).symm; subst hr
   refine Hid.mk ⟨_,Wk.refl _,?_⟩
   try simp -implicitDefEqProofs (maxSteps := 999999) [-selQ_sel]
theorem laws_markPointS_ok0 (hm : Try.prog.follows .mixedOrders = true) : Sound Try.prog 112 laws_markPointS_x := by
 refine xOf_sound fun q r h => ?_
 obtain ⟨a0,a1⟩ := q
 refine fn_ok E0 hm Try.func112 rfl (by decide +kernel) (by rfl) fun Γ hn hk => ?_
 dsimp only [laws_markPointS_e,laws_markPointS_v]
 replace hn : Γ.n = 27 := hn
 replace hk : Γ.k = 1 := hk
 have H : HS (laws_markPointS a0 a1) r := h
 clear h; unfold laws_markPointS at H
 try simp -implicitDefEqProofs at H
 refine Tr.of_vc (cl := tabC []) (E := E0) [] tab_nil hm (by rw [hn]; decide +kernel) ?_
 try simp -implicitDefEqProofs (maxSteps := 999999) [-selQ_sel]
 obtain ⟨q,h_1,H⟩ := HS.bnd H
 refine Hid.mk (Tr.weak (s' := laws_markPointS_l0_S (a0,0,a1)) (Wk.ofk [0] hk (by rfl) (by simp -implicitDefEqProofs [laws_markPointS_l0_S]) (by simp -implicitDefEqProofs [laws_markPointS_l0_S])) ?_)
 refine wp_loop_of (S := laws_markPointS_l0_S) (f := laws_markPointS_l0) (xt := laws_markPointS_l0_X) ?_ ?_ h_1 ?_
 ·intro q; rcases q with ⟨y12,y13⟩ <;> simp [laws_markPointS_l0_X]
 ·clear H h_1 q
  rintro ⟨x5,x6,x7⟩ o R hf hR
  have H : HS (laws_markPointS_l0 (x5,x6,x7)) o := hf
  clear hf; unfold laws_markPointS_l0 at H
  try simp -implicitDefEqProofs at H
  refine Tr.of_vc (cl := tabC []) (E := E0) [] tab_nil hm (by rw [hn]; decide +kernel) ?_
  try simp -implicitDefEqProofs (maxSteps := 999999) [-selQ_sel,laws_markPointS_l0_S]
  refine Hid.brV (fun h_2 => ?_) (fun h_2 => ?_)
  ·replace H := HS.cnd_t h_2 H
   try simp -implicitDefEqProofs (maxSteps := 999999) [-selQ_sel,h_2]
   have hr := (HS.some H).symm; subst hr
   exact Hid.mk ⟨(laws_markPointS_l0_X (x7,x5)).2,Wk.ofk [0] hk (by rfl) (by simp -implicitDefEqProofs [laws_markPointS_l0_X,h_2]) (by simp -implicitDefEqProofs [laws_markPointS_l0_X,h_2]),hR⟩
  ·replace H := HS.cnd_f h_2 H
   try simp -implicitDefEqProofs (maxSteps := 999999) [-selQ_sel,h_2]
   obtain ⟨v8,h_3,H⟩ := HS.bnd H
   have g_4 := idx_get h_3
   try simp -implicitDefEqProofs (maxSteps := 999999) [-selQ_sel,h_2,h_3,g_4]
   obtain ⟨l9,h_5,H⟩ := HS.nam H
   have m_6 := congrArg (List.map ePoint) h_5
   have q_7 := congrArg List.length h_5
   simp -implicitDefEqProofs at m_6 q_7
   try simp only [q_7] at m_6
   try simp only [q_7] at g_4
   try simp -implicitDefEqProofs (maxSteps := 999999) [-selQ_sel,h_2,h_3,g_4,m_6,q_7]
   obtain ⟨v10,h_8,H⟩ := HS.bnd H
   have g_9 := idx_get h_8
   try simp -implicitDefEqProofs (maxSteps := 999999) [-selQ_sel,h_2,h_3,g_4,m_6,q_7,h_8,g_9]
   obtain ⟨l11,h_10,H⟩ := HS.nam H
   have m_11 := congrArg (List.map ePoint) h_10
   have q_12 := congrArg List.length h_10
   simp -implicitDefEqProofs at m_11 q_12
   try simp only [q_12] at m_11
   try simp only [q_12] at g_9
   try simp -implicitDefEqProofs (maxSteps := 999999) [-selQ_sel,h_2,h_3,g_4,m_6,q_7,h_8,g_9,m_11,q_12]
   have hr := (HS.some H).symm; subst hr
   exact Hid.mk ⟨laws_markPointS_l0_S ((IntKind.i64.wrap ((IntKind.i64.wrap (x5 + 1)) + 1)),(IntKind.i64.wrap (x6 + 1)),l11),Wk.ofk [0] hk (by rfl) (by simp -implicitDefEqProofs [laws_markPointS_l0_S,h_2,h_3,g_4,m_6,q_7,h_8,g_9,m_11,q_12]) (by simp -implicitDefEqProofs [laws_markPointS_l0_S,h_2,h_3,g_4,m_6,q_7,h_8,g_9,m_11,q_12]),hR⟩
 ·obtain ⟨y12,y13⟩ := q
  try dsimp only at H
  try simp -implicitDefEqProofs (maxSteps := 999999) [-selQ_sel,laws_markPointS_l0_X]
  have hr := (HS.some H).symm; subst hr
  refine Hid.mk ⟨_,Wk.refl _,?_⟩
  try simp -implicitDefEqProofs (maxSteps := 999999) [-selQ_sel]
theorem impl_NeedOf_ok0 (hm : Try.prog.follows .mixedOrders = true) : Sound Try.prog 121 impl_NeedOf_x := by
 refine xOf_sound fun q r h => ?_
 revert h; revert r; revert q; intro a0 r h
 refine fn_ok E0 hm Try.func121 rfl (by decide +kernel) (by rfl) fun Γ hn hk => ?_
 dsimp only [impl_NeedOf_e,impl_NeedOf_v]
 replace hn : Γ.n = 13 := hn
 replace hk : Γ.k = 0 := hk
 have H : HS (impl_NeedOf a0) r := h
 clear h; unfold impl_NeedOf at H
 try simp -implicitDefEqProofs at H
 refine Tr.of_vc (cl := tabC []) (E := E0) [] tab_nil hm (by rw [hn]; decide +kernel) ?_
 try simp -implicitDefEqProofs (maxSteps := 999999) [-selQ_sel]
 refine Hid.brV (fun h_1 => ?_) (fun h_1 => ?_)
 ·replace H := HS.cnd_t h_1 H
  try simp -implicitDefEqProofs (maxSteps := 999999) [-selQ_sel,h_1]
  have hr := (HS.some H).symm; subst hr
  refine Hid.mk ⟨_,Wk.refl _,?_⟩
  try simp -implicitDefEqProofs (maxSteps := 999999) [-selQ_sel,h_1]
 ·replace H := HS.cnd_f h_1 H
  try simp -implicitDefEqProofs (maxSteps := 999999) [-selQ_sel,h_1]
  refine Hid.brV (fun h_2 => ?_) (fun h_2 => ?_)
  ·replace H := HS.cnd_t h_2 H
   try simp -implicitDefEqProofs (maxSteps := 999999) [-selQ_sel,h_1,h_2]
   have hr := (HS.some H).symm; subst hr
   refine Hid.mk ⟨_,Wk.refl _,?_⟩
   try simp -implicitDefEqProofs (maxSteps := 999999) [-selQ_sel,h_1,h_2]
  ·replace H := HS.cnd_f h_2 H
   try simp -implicitDefEqProofs (maxSteps := 999999) [-selQ_sel,h_1,h_2]
   refine Hid.brV (fun h_3 => ?_) (fun h_3 => ?_)
   ·replace H := HS.cnd_t h_3 H
    try simp -implicitDefEqProofs (maxSteps := 999999) [-selQ_sel,h_1,h_2,h_3]
    have hr := (HS.some H).symm; subst hr
    refine Hid.mk ⟨_,Wk.refl _,?_⟩
    try simp -implicitDefEqProofs (maxSteps := 999999) [-selQ_sel,h_1,h_2,h_3]
   ·replace H := HS.cnd_f h_3 H
    try simp -implicitDefEqProofs (maxSteps := 999999) [-selQ_sel,h_1,h_2,h_3]
    refine Hid.brV (fun h_4 => ?_) (fun h_4 => ?_)
    ·replace H := HS.cnd_t h_4 H
     try simp -implicitDefEqProofs (maxSteps := 999999) [-selQ_sel,h_1,h_2,h_3,h_4]
     have hr := (HS.some H).symm; subst hr
     refine Hid.mk ⟨_,Wk.refl _,?_⟩
     try simp -implicitDefEqProofs (maxSteps := 999999) [-selQ_sel,h_1,h_2,h_3,h_4]
    ·replace H := HS.cnd_f h_4 H
     try simp -implicitDefEqProofs (maxSteps := 999999) [-selQ_sel,h_1,h_2,h_3,h_4]
     refine Hid.brV (fun h_5 => ?_) (fun h_5 => ?_)
     ·replace H := HS.cnd_t h_5 H
      try simp -implicitDefEqProofs (maxSteps := 999999) [-selQ_sel,h_1,h_2,h_3,h_4,h_5]
      have hr := (HS.some H).symm; subst hr
      refine Hid.mk ⟨_,Wk.refl _,?_⟩
      try simp -implicitDefEqProofs (maxSteps := 999999) [-selQ_sel,h_1,h_2,h_3,h_4,h_5]
     ·replace H := HS.cnd_f h_5 H
      try simp -implicitDefEqProofs (maxSteps := 999999) [-selQ_sel,h_1,h_2,h_3,h_4,h_5]
      have hr := (HS.some H).symm; subst hr
      refine Hid.mk ⟨_,Wk.refl _,?_⟩
      try simp -implicitDefEqProofs (maxSteps := 999999) [-selQ_sel,h_1,h_2,h_3,h_4,h_5]
theorem laws_markIntS_ok0 (hm : Try.prog.follows .mixedOrders = true) : Sound Try.prog 72 laws_markIntS_x := by
 refine xOf_sound fun q r h => ?_
 obtain ⟨a0,a1⟩ := q
 refine fn_ok E0 hm Try.func72 rfl (by decide +kernel) (by rfl) fun Γ hn hk => ?_
 dsimp only [laws_markIntS_e,laws_markIntS_v]
 replace hn : Γ.n = 19 := hn
 replace hk : Γ.k = 1 := hk
 have H : HS (laws_markIntS a0 a1) r := h
 clear h; unfold laws_markIntS at H
 try simp -implicitDefEqProofs at H
 refine Tr.of_vc (cl := tabC []) (E := E0) [] tab_nil hm (by rw [hn]; decide +kernel) ?_
 try simp -implicitDefEqProofs (maxSteps := 999999) [-selQ_sel]
 obtain ⟨q,h_1,H⟩ := HS.bnd H
 refine Hid.mk (Tr.weak (s' := laws_markIntS_l0_S (a0,0,a1)) (Wk.ofk [0] hk (by rfl) (by simp -implicitDefEqProofs [laws_markIntS_l0_S]) (by simp -implicitDefEqProofs [laws_markIntS_l0_S])) ?_)
 refine wp_loop_of (S := laws_markIntS_l0_S) (f := laws_markIntS_l0) (xt := laws_markIntS_l0_X) ?_ ?_ h_1 ?_
 ·intro q; rcases q with ⟨y8,y9⟩ <;> simp [laws_markIntS_l0_X]
 ·clear H h_1 q
  rintro ⟨x3,x4,x5⟩ o R hf hR
  have H : HS (laws_markIntS_l0 (x3,x4,x5)) o := hf
  clear hf; unfold laws_markIntS_l0 at H
  try simp -implicitDefEqProofs at H
  refine Tr.of_vc (cl := tabC []) (E := E0) [] tab_nil hm (by rw [hn]; decide +kernel) ?_
  try simp -implicitDefEqProofs (maxSteps := 999999) [-selQ_sel,laws_markIntS_l0_S]
  refine Hid.brV (fun h_2 => ?_) (fun h_2 => ?_)
  ·replace H := HS.cnd_t h_2 H
   try simp -implicitDefEqProofs (maxSteps := 999999) [-selQ_sel,h_2]
   have hr := (HS.some H).symm; subst hr
   exact Hid.mk ⟨(laws_markIntS_l0_X (x5,x3)).2,Wk.ofk [0] hk (by rfl) (by simp -implicitDefEqProofs [laws_markIntS_l0_X,h_2]) (by simp -implicitDefEqProofs [laws_markIntS_l0_X,h_2]),hR⟩
  ·replace H := HS.cnd_f h_2 H
   try simp -implicitDefEqProofs (maxSteps := 999999) [-selQ_sel,h_2]
   obtain ⟨v6,h_3,H⟩ := HS.bnd H
   have g_4 := idx_get h_3
   try simp -implicitDefEqProofs (maxSteps := 999999) [-selQ_sel,h_2,h_3,g_4]
   obtain ⟨l7,h_5,H⟩ := HS.nam H
   have m_6 := congrArg (List.map (AV.int .i64)) h_5
   have q_7 := congrArg List.length h_5
   simp -implicitDefEqProofs at m_6 q_7
   try simp only [q_7] at m_6
   try simp only [q_7] at g_4
   try simp -implicitDefEqProofs (maxSteps := 999999) [-selQ_sel,h_2,h_3,g_4,m_6,q_7]
   have hr := (HS.some H).symm; subst hr
   exact Hid.mk ⟨laws_markIntS_l0_S ((IntKind.i64.wrap (x3 + 1)),(IntKind.i64.wrap (x4 + 1)),l7),Wk.ofk [0] hk (by rfl) (by simp -implicitDefEqProofs [laws_markIntS_l0_S,h_2,h_3,g_4,m_6,q_7]) (by simp -implicitDefEqProofs [laws_markIntS_l0_S,h_2,h_3,g_4,m_6,q_7]),hR⟩
 ·obtain ⟨y8,y9⟩ := q
  try dsimp only at H
  try simp -implicitDefEqProofs (maxSteps := 999999) [-selQ_sel,laws_markIntS_l0_X]
  have hr := (HS.some H).symm; subst hr
  refine Hid.mk ⟨_,Wk.refl _,?_⟩
  try simp -implicitDefEqProofs (maxSteps := 999999) [-selQ_sel]
theorem spec_ColorOk_ok0 (hm : Try.prog.follows .mixedOrders = true) (k_spec_l01In : Sound Try.prog 87 spec_l01In_x) : Sound Try.prog 126 spec_ColorOk_x := by
 refine xOf_sound fun q r h => ?_
 revert h; revert r; revert q; intro a0 r h
 refine fn_ok E0 hm Try.func126 rfl (by decide +kernel) (by rfl) fun Γ hn hk => ?_
 dsimp only [spec_ColorOk_e,spec_ColorOk_v]
 replace hn : Γ.n = 21 := hn
 replace hk : Γ.k = 0 := hk
 have H : HS (spec_ColorOk a0) r := h
 clear h; unfold spec_ColorOk at H
 try simp -implicitDefEqProofs at H
 refine Tr.of_vc (cl := tabC [(87,spec_l01In_x)]) (E := E0) [] (tab_cons k_spec_l01In tab_nil) hm (by rw [hn]; decide +kernel) ?_
 try simp -implicitDefEqProofs (maxSteps := 999999) [-selQ_sel]
 obtain ⟨v1,h_1,H⟩ := HS.bnd H
 try simp -implicitDefEqProofs (maxSteps := 999999) [-selQ_sel,h_1]
 refine Hid.selQ (fun h_2 => ?_) (fun h_2 => ?_)
 ·replace H := HS.cnd_t h_2 H
  try simp -implicitDefEqProofs (maxSteps := 999999) [-selQ_sel,h_1,h_2]
  obtain ⟨v2,h_3,H⟩ := HS.bnd H
  try simp -implicitDefEqProofs (maxSteps := 999999) [-selQ_sel,h_1,h_2,h_3]
  refine Hid.selQ (fun h_4 => ?_) (fun h_4 => ?_)
  ·replace H := HS.cnd_t h_4 H
   try simp -implicitDefEqProofs (maxSteps := 999999) [-selQ_sel,h_1,h_2,h_3,h_4]
   obtain ⟨v3,h_5,H⟩ := HS.bnd H
   try simp -implicitDefEqProofs (maxSteps := 999999) [-selQ_sel,h_1,h_2,h_3,h_4,h_5]
   refine Hid.selQ (fun h_6 => ?_) (fun h_6 => ?_)
   ·replace H := HS.cnd_t h_6 H
    try simp -implicitDefEqProofs (maxSteps := 999999) [-selQ_sel,h_1,h_2,h_3,h_4,h_5,h_6]
    obtain ⟨v4,h_7,H⟩ := HS.bnd H
    try simp -implicitDefEqProofs (maxSteps := 999999) [-selQ_sel,h_1,h_2,h_3,h_4,h_5,h_6,h_7]
    have hr := (HS.some H).symm; subst hr
    refine Hid.mk ⟨_,Wk.refl _,?_⟩
    try simp -implicitDefEqProofs (maxSteps := 999999) [-selQ_sel,h_1,h_2,h_3,h_4,h_5,h_6,h_7]
   ·replace H := HS.cnd_f h_6 H
    try simp -implicitDefEqProofs (maxSteps := 999999) [-selQ_sel,h_1,h_2,h_3,h_4,h_5,h_6]
    have hr := (HS.some H).symm; subst hr
    refine Hid.mk ⟨_,Wk.refl _,?_⟩
    try simp -implicitDefEqProofs (maxSteps := 999999) [-selQ_sel,h_1,h_2,h_3,h_4,h_5,h_6]
  ·replace H := HS.cnd_f h_4 H
   try simp -implicitDefEqProofs (maxSteps := 999999) [-selQ_sel,h_1,h_2,h_3,h_4]
   have hr := (HS.some H).symm; subst hr
   refine Hid.mk ⟨_,Wk.refl _,?_⟩
   try simp -implicitDefEqProofs (maxSteps := 999999) [-selQ_sel,h_1,h_2,h_3,h_4]
 ·replace H := HS.cnd_f h_2 H
  try simp -implicitDefEqProofs (maxSteps := 999999) [-selQ_sel,h_1,h_2]
  have hr := (HS.some H).symm; subst hr
  refine Hid.mk ⟨_,Wk.refl _,?_⟩
  try simp -implicitDefEqProofs (maxSteps := 999999) [-selQ_sel,h_1,h_2]
theorem spec_l15CopyPath_ok0 (hm : Try.prog.follows .mixedOrders = true) : Sound Try.prog 88 spec_l15CopyPath_x := by
 refine xOf_sound fun q r h => ?_
 revert h; revert r; revert q; intro a0 r h
 refine fn_ok E0 hm Try.func88 rfl (by decide +kernel) (by rfl) fun Γ hn hk => ?_
 dsimp only [spec_l15CopyPath_e,spec_l15CopyPath_v]
 replace hn : Γ.n = 12 := hn
 replace hk : Γ.k = 0 := hk
 have H : HS (spec_l15CopyPath a0) r := h
 clear h; unfold spec_l15CopyPath at H
 try simp -implicitDefEqProofs at H
 refine Tr.of_vc (cl := tabC []) (E := E0) [] tab_nil hm (by rw [hn]; decide +kernel) ?_
 try simp -implicitDefEqProofs +decide (maxSteps := 999999) [-selQ_sel,hokQ_of]
 obtain ⟨h_1,H⟩ := HS.chkP H
 try simp -implicitDefEqProofs +decide (maxSteps := 999999) [-selQ_sel,hokQ_of,h_1]
 obtain ⟨l1,h_2,H⟩ := HS.nam H
 have m_3 := congrArg (List.map (AV.int .i64)) h_2
 have q_4 := congrArg List.length h_2
 simp -implicitDefEqProofs at m_3 q_4
 try simp only [q_4] at m_3
 try simp only [q_4] at h_1
 try simp -implicitDefEqProofs +decide (maxSteps := 999999) [-selQ_sel,hokQ_of,h_1,m_3,q_4]
 obtain ⟨h_5,H⟩ := HS.chkP H
 try simp -implicitDefEqProofs +decide (maxSteps := 999999) [-selQ_sel,hokQ_of,h_1,m_3,q_4,h_5]
 obtain ⟨l2,h_6,H⟩ := HS.nam H
 have m_7 := congrArg (List.map ePoint) h_6
 have q_8 := congrArg List.length h_6
 simp -implicitDefEqProofs at m_7 q_8
 try simp only [q_8] at m_7
 try simp only [q_8] at h_5
 try simp -implicitDefEqProofs +decide (maxSteps := 999999) [-selQ_sel,hokQ_of,h_1,m_3,q_4,h_5,m_7,q_8]
 have hr := (HS.some H).symm; subst hr
 refine Hid.mk ⟨⟨[(2,AV.optr 0 0 2)],[(0,Ob.box [AV.osl 1 0 (List.length l1) (List.length l1),AV.osl 2 0 (List.length l2) (List.length l2)]),(1,Ob.arr 1 (List.map (AV.int .i64) l1) false),(2,Ob.arr 2 (List.map ePoint l2) false)],3⟩,Wk.ofk [1,2,3] hk (by rfl) (by simp -implicitDefEqProofs [h_1,m_3,q_4,h_5,m_7,q_8]) (by simp -implicitDefEqProofs [h_1,m_3,q_4,h_5,m_7,q_8]),?_⟩
 try simp -implicitDefEqProofs +decide (maxSteps := 999999) [-selQ_sel,hokQ_of,h_1,m_3,q_4,h_5,m_7,q_8]
theorem laws_eqPath_ok0 (hm : Try.prog.follows .mixedOrders = true) (k_laws_eqIntS : Sound Try.prog 68 laws_eqIntS_x) (k_laws_eqPointS : Sound Try.prog 109 laws_eqPointS_x) : Sound Try.prog 67 laws_eqPath_x := by
 refine xOf_sound fun q r h => ?_
 obtain ⟨a0,a1⟩ := q
 refine fn_ok E0 hm Try.func67 rfl (by decide +kernel) (by rfl) fun Γ hn hk => ?_
 dsimp only [laws_eqPath_e,laws_eqPath_v]
 replace hn : Γ.n = 17 := hn
 replace hk : Γ.k = 0 := hk
 have H : HS (laws_eqPath a0 a1) r := h
 clear h; unfold laws_eqPath at H
 try simp -implicitDefEqProofs at H
 refine Tr.of_vc (cl := tabC [(68,laws_eqIntS_x),(109,laws_eqPointS_x)]) (E := E0) [] (tab_cons k_laws_eqIntS (tab_cons k_laws_eqPointS tab_nil)) hm (by rw [hn]; decide +kernel) ?_
 try simp -implicitDefEqProofs (maxSteps := 999999) [-selQ_sel]
 obtain ⟨v1,h_1,H⟩ := HS.bnd H
 try simp -implicitDefEqProofs (maxSteps := 999999) [-selQ_sel,h_1]
 refine Hid.brV (fun h_2 => ?_) (fun h_2 => ?_)
 ·replace H := HS.cnd_t h_2 H
  try simp -implicitDefEqProofs (maxSteps := 999999) [-selQ_sel,h_1,h_2]
  obtain ⟨v2,h_3,H⟩ := HS.bnd H
  try simp -implicitDefEqProofs (maxSteps := 999999) [-selQ_sel,h_1,h_2,h_3]
  refine Hid.brV (fun h_4 => ?_) (fun h_4 => ?_)
  ·replace H := HS.cnd_t h_4 H
   try simp -implicitDefEqProofs (maxSteps := 999999) [-selQ_sel,h_1,h_2,h_3,h_4]
   have hr := (HS.some H).symm; subst hr
   refine Hid.mk ⟨_,Wk.refl _,?_⟩
   try simp -implicitDefEqProofs (maxSteps := 999999) [-selQ_sel,h_1,h_2,h_3,h_4]
  ·replace H := HS.cnd_f h_4 H
   try simp -implicitDefEqProofs (maxSteps := 999999) [-selQ_sel,h_1,h_2,h_3,h_4]
   have hr := (HS.some H).symm; subst hr
   refine Hid.mk ⟨_,Wk.refl _,?_⟩
   try simp -implicitDefEqProofs (maxSteps := 999999) [-selQ_sel,h_1,h_2,h_3,h_4]
 ·replace H := HS.cnd_f h_2 H
  try simp -implicitDefEqProofs (maxSteps := 999999) [-selQ_sel,h_1,h_2]
  have hr := (HS.some H).symm; subst hr
  refine Hid.mk ⟨_,Wk.refl _,?_⟩
  try simp -implicitDefEqProofs (maxSteps := 999999) [-selQ_sel,h_1,h_2]
theorem slices_Clone_int_ok0 (hm : Try.prog.follows .mixedOrders = true) : Sound Try.prog 108 slices_Clone_int_x := by
 refine xOf_sound fun q r h => ?_
 revert h; revert r; revert q; intro a0 r h
 refine fn_ok E0 hm Try.func108 rfl (by decide +kernel) (by rfl) fun Γ hn hk => ?_
 dsimp only [slices_Clone_int_e,slices_Clone_int_v]
 replace hn : Γ.n = 8 := hn
 replace hk : Γ.k = 0 := hk
 have H : HS (slices_Clone_int a0) r := h
 clear h; unfold slices_Clone_int at H
 obtain ⟨h_1,H⟩ := HS.chkP H
 have hr := (HS.some H).symm; subst hr
 refine Tr.of_vc (cl := tabC []) (E := E0) [1] tab_nil hm (by rw [hn]; decide +kernel) ?_
 simp -implicitDefEqProofs [-selQ_sel]
 refine Hid.mk (Tr_nil (E := E0) tab_nil (h1 := rfl) (hd1 := fun d h => by cases h; rw [hn]; decide) (ho := rfl) (hg := rfl) (hd := rfl) (hdn := by rw [hn]; decide) (hu := elt_36) (hx := rfl) fun b hb => ?_)
 refine Tr.of_vc (cl := tabC []) (E := E0) [] tab_nil hm (by rw [hn]; decide +kernel) ?_
 simp -implicitDefEqProofs [-selQ_sel,aft,putT]
 refine Hid.brV (fun h_2 => ?_) (fun h_2 => ?_)
 ·simp -implicitDefEqProofs [-selQ_sel]
  have h_3 := hb h_2; simp at h_3; subst h_3
  refine Hid.mk ⟨_,Wk.refl _,?_⟩
  simp -implicitDefEqProofs [-selQ_sel,h_1]
  refine ⟨⟨[(2,AV.osl 0 0 0 0)],[(0,Ob.arr 1 (List.map (AV.int .i64) []) false)],1⟩,Wk.ofk [0] hk (by rfl) (by simp -implicitDefEqProofs) (by simp -implicitDefEqProofs),?_⟩
  simp -implicitDefEqProofs [-selQ_sel,h_1]
 ·simp -implicitDefEqProofs [-selQ_sel]
  refine Hid.mk ⟨_,Wk.refl _,?_⟩
  simp -implicitDefEqProofs [-selQ_sel,h_1]
  refine ⟨⟨[(2,AV.osl 0 0 (List.length a0) (List.length a0))],[(0,Ob.arr 1 (List.map (AV.int .i64) a0) false)],1⟩,Wk.ofk [0] hk (by rfl) (by simp -implicitDefEqProofs) (by simp -implicitDefEqProofs),?_⟩
  simp -implicitDefEqProofs [-selQ_sel,h_1]
theorem impl_copyPath_ok0 (hm : Try.prog.follows .mixedOrders = true) (k_slices_Clone_int : Sound Try.prog 108 slices_Clone_int_x) (k_slices_Clone_Point : Sound Try.prog 127 slices_Clone_Point_x) : Sound Try.prog 107 impl_copyPath_x := by
 refine xOf_sound fun q r h => ?_
 revert h; revert r; revert q; intro a0 r h
 refine fn_ok E0 hm Try.func107 rfl (by decide +kernel) (by rfl) fun Γ hn hk => ?_
 dsimp only [impl_copyPath_e,impl_copyPath_v]
 replace hn : Γ.n = 10 := hn
 replace hk : Γ.k = 0 := hk
 have H : HS (impl_copyPath a0) r := h
 clear h; unfold impl_copyPath at H
 try simp -implicitDefEqProofs at H
 refine Tr.of_vc (cl := tabC [(108,slices_Clone_int_x),(127,slices_Clone_Point_x)]) (E := E0) [] (tab_cons k_slices_Clone_int (tab_cons k_slices_Clone_Point tab_nil)) hm (by rw [hn]; decide +kernel) ?_
 try simp -implicitDefEqProofs +decide (maxSteps := 999999) [-selQ_sel,hokQ_of]
 obtain ⟨v1,h_1,H⟩ := HS.bnd H
 try simp -implicitDefEqProofs +decide (maxSteps := 999999) [-selQ_sel,hokQ_of,h_1]
 obtain ⟨v2,h_2,H⟩ := HS.bnd H
 try simp -implicitDefEqProofs +decide (maxSteps := 999999) [-selQ_sel,hokQ_of,h_1,h_2]
 have hr := (HS.some H).symm; subst hr
 refine Hid.mk ⟨⟨[(2,AV.optr 0 0 2)],[(0,Ob.box [AV.osl 1 0 (List.length v1) (List.length v1),AV.osl 2 0 (List.length v2) (List.length v2)]),(1,Ob.arr 1 (List.map (AV.int .i64) v1) false),(2,Ob.arr 2 (List.map ePoint v2) false)],3⟩,Wk.ofk [1,2,3] hk (by rfl) (by simp -implicitDefEqProofs [h_1,h_2]) (by simp -implicitDefEqProofs [h_1,h_2]),?_⟩
 try simp -implicitDefEqProofs +decide (maxSteps := 999999) [-selQ_sel,hokQ_of,h_1,h_2]
theorem spec_PointOk_ok0 (hm : Try.prog.follows .mixedOrders = true) (k_spec_l01In : Sound Try.prog 87 spec_l01In_x) : Sound Try.prog 125 spec_PointOk_x := by
 refine xOf_sound fun q r h => ?_
 revert h; revert r; revert q; intro a0 r h
 refine fn_ok E0 hm Try.func125 rfl (by decide +kernel) (by rfl) fun Γ hn hk => ?_
 dsimp only [spec_PointOk_e,spec_PointOk_v]
 replace hn : Γ.n = 11 := hn
 replace hk : Γ.k = 0 := hk
 have H : HS (spec_PointOk a0) r := h
 clear h; unfold spec_PointOk at H
 try simp -implicitDefEqProofs at H
 refine Tr.of_vc (cl := tabC [(87,spec_l01In_x)]) (E := E0) [] (tab_cons k_spec_l01In tab_nil) hm (by rw [hn]; decide +kernel) ?_
 try simp -implicitDefEqProofs (maxSteps := 999999) [-selQ_sel]
 obtain ⟨v1,h_1,H⟩ := HS.bnd H
 try simp -implicitDefEqProofs (maxSteps := 999999) [-selQ_sel,h_1]
 refine Hid.selQ (fun h_2 => ?_) (fun h_2 => ?_)
 ·replace H := HS.cnd_t h_2 H
  try simp -implicitDefEqProofs (maxSteps := 999999) [-selQ_sel,h_1,h_2]
  obtain ⟨v2,h_3,H⟩ := HS.bnd H
  try simp -implicitDefEqProofs (maxSteps := 999999) [-selQ_sel,h_1,h_2,h_3]
  have hr := (HS.some H).symm; subst hr
  refine Hid.mk ⟨_,Wk.refl _,?_⟩
  try simp -implicitDefEqProofs (maxSteps := 999999) [-selQ_sel,h_1,h_2,h_3]
 ·replace H := HS.cnd_f h_2 H
  try simp -implicitDefEqProofs (maxSteps := 999999) [-selQ_sel,h_1,h_2]
  have hr := (HS.some H).symm; subst hr
  refine Hid.mk ⟨_,Wk.refl _,?_⟩
  try simp -implicitDefEqProofs (maxSteps := 999999) [-selQ_sel,h_1,h_2]
theorem laws_heldScene_ok0 (hm : Try.prog.follows .mixedOrders = true) (k_laws_heldNodeS : Sound Try.prog 73 laws_heldNodeS_x) : Sound Try.prog 26 laws_heldScene_x := by
 refine xOf_sound fun q r h => ?_
 obtain ⟨a0,a1⟩ := q
 refine fn_ok E0 hm Try.func26 rfl (by decide +kernel) (by rfl) fun Γ hn hk => ?_
 dsimp only [laws_heldScene_e,laws_heldScene_v]
 replace hn : Γ.n = 12 := hn
 replace hk : Γ.k = 0 := hk
 have H : HS (laws_heldScene a0 a1) r := h
 clear h; unfold laws_heldScene at H
 try simp -implicitDefEqProofs at H
 refine Tr.of_vc (cl := tabC [(73,laws_heldNodeS_x)]) (E := E0) [] (tab_cons k_laws_heldNodeS tab_nil) hm (by rw [hn]; decide +kernel) ?_
 try simp -implicitDefEqProofs (maxSteps := 999999) [-selQ_sel]
 obtain ⟨v1,h_1,H⟩ := HS.bnd H
 try simp -implicitDefEqProofs (maxSteps := 999999) [-selQ_sel,h_1]
 refine Hid.brV (fun h_2 => ?_) (fun h_2 => ?_)
 ·replace H := HS.cnd_t h_2 H
  try simp -implicitDefEqProofs (maxSteps := 999999) [-selQ_sel,h_1,h_2]
  have hr := (HS.some H).symm; subst hr
  refine Hid.mk ⟨_,Wk.refl _,?_⟩
  try simp -implicitDefEqProofs (maxSteps := 999999) [-selQ_sel,h_1,h_2]
 ·replace H := HS.cnd_f h_2 H
  try simp -implicitDefEqProofs (maxSteps := 999999) [-selQ_sel,h_1,h_2]
  have hr := (HS.some H).symm; subst hr
  refine Hid.mk ⟨_,Wk.refl _,?_⟩
  try simp -implicitDefEqProofs (maxSteps := 999999) [-selQ_sel,h_1,h_2]
theorem laws_toScene_ok0 (hm : Try.prog.follows .mixedOrders = true) (k_laws_toNodeS : Sound Try.prog 59 laws_toNodeS_x) : Sound Try.prog 19 laws_toScene_x := by
 refine xOf_sound fun q r h => ?_
 revert h; revert r; revert q; intro a0 r h
 refine fn_ok E0 hm Try.func19 rfl (by decide +kernel) (by rfl) fun Γ hn hk => ?_
 dsimp only [laws_toScene_e,laws_toScene_v]
 replace hn : Γ.n = 9 := hn
 replace hk : Γ.k = 0 := hk
 have H : HS (laws_toScene a0) r := h
 clear h; unfold laws_toScene at H
 try simp -implicitDefEqProofs at H
 refine Tr.of_vc (cl := tabC [(59,laws_toNodeS_x)]) (E := E0) [] (tab_cons k_laws_toNodeS tab_nil) hm (by rw [hn]; decide +kernel) ?_
 try simp -implicitDefEqProofs (maxSteps := 999999) [-selQ_sel]
 obtain ⟨v1,h_1,H⟩ := HS.bnd H
 try simp -implicitDefEqProofs (maxSteps := 999999) [-selQ_sel,h_1]
 have hr := (HS.some H).symm; subst hr
 refine Hid.mk ⟨⟨[(2,AV.optr 0 0 1)],[(0,Ob.box [AV.osl 1 0 (List.length v1) (List.length v1)]),(1,Ob.nar 31 (List.map eNode v1) [0,0,0,0,0,0,0,0,0,1,2,0,0,1,0,0,0,0,0,0,0,0,0,0,0,0,0,0,0,1,2])],2⟩,Wk.ofk [1,3] hk (by rfl) (by simp -implicitDefEqProofs [h_1]) (by simp -implicitDefEqProofs [h_1]),?_⟩
 try simp -implicitDefEqProofs (maxSteps := 999999) [-selQ_sel,h_1]
theorem impl_inRange_ok0 (hm : Try.prog.follows .mixedOrders = true) : Sound Try.prog 41 impl_inRange_x := by
 refine xOf_sound fun q r h => ?_
 obtain ⟨a0,a1,a2⟩ := q
 refine fn_ok E0 hm Try.func41 rfl (by decide +kernel) (by rfl) fun Γ hn hk => ?_
 dsimp only [impl_inRange_e,impl_inRange_v]
 replace hn : Γ.n = 15 := hn
 replace hk : Γ.k = 0 := hk
 have H : HS (impl_inRange a0 a1 a2) r := h
 clear h; unfold impl_inRange at H
 try simp -implicitDefEqProofs at H
 refine Tr.of_vc (cl := tabC []) (E := E0) [] tab_nil hm (by rw [hn]; decide +kernel) ?_
 try simp -implicitDefEqProofs (maxSteps := 999999) [-selQ_sel]
 refine Hid.selQ (fun h_1 => ?_) (fun h_1 => ?_)
 ·replace H := HS.cnd_t h_1 H
  try simp -implicitDefEqProofs (maxSteps := 999999) [-selQ_sel,h_1]
  have hr := (HS.some H).symm; subst hr
  refine Hid.mk ⟨_,Wk.refl _,?_⟩
  try simp -implicitDefEqProofs (maxSteps := 999999) [-selQ_sel,h_1]
 ·replace H := HS.cnd_f h_1 H
  try simp -implicitDefEqProofs (maxSteps := 999999) [-selQ_sel,h_1]
  have hr := (HS.some H).symm; subst hr
  refine Hid.mk ⟨_,Wk.refl _,?_⟩
  try simp -implicitDefEqProofs (maxSteps := 999999) [-selQ_sel,h_1]
theorem laws_szIntS_ok0 (hm : Try.prog.follows .mixedOrders = true) : Sound Try.prog 56 laws_szIntS_x := by
 refine xOf_sound fun q r h => ?_
 obtain ⟨a0,a1⟩ := q
 refine fn_ok E0 hm Try.func56 rfl (by decide +kernel) (by rfl) fun Γ hn hk => ?_
 dsimp only [laws_szIntS_e,laws_szIntS_v]
 replace hn : Γ.n = 12 := hn
 replace hk : Γ.k = 0 := hk
 have H : HS (laws_szIntS a0 a1) r := h
 clear h; unfold laws_szIntS at H
 try simp -implicitDefEqProofs at H
 refine Tr.of_vc (cl := tabC []) (E := E0) [] tab_nil hm (by rw [hn]; decide +kernel) ?_
 try simp -implicitDefEqProofs (maxSteps := 999999) [-selQ_sel]
 refine Hid.brV (fun h_1 => ?_) (fun h_1 => ?_)
 ·replace H := HS.cnd_t h_1 H
  try simp -implicitDefEqProofs (maxSteps := 999999) [-selQ_sel,h_1]
  have hr := (HS.some H).symm; subst hr
  refine Hid.mk ⟨_,Wk.refl _,?_⟩
  try simp -implicitDefEqProofs (maxSteps := 999999) [-selQ_sel,h_1]
 ·replace H := HS.cnd_f h_1 H
  try simp -implicitDefEqProofs (maxSteps := 999999) [-selQ_sel,h_1]
  have hr := (HS.some H).symm; subst hr
  refine Hid.mk ⟨_,Wk.refl _,?_⟩
  try simp -implicitDefEqProofs (maxSteps := 999999) [-selQ_sel,h_1]
theorem impl_isMode_ok0 (hm : Try.prog.follows .mixedOrders = true) (k_impl_inRange : Sound Try.prog 41 impl_inRange_x) : Sound Try.prog 92 impl_isMode_x := by
 refine xOf_sound fun q r h => ?_
 revert h; revert r; revert q; intro a0 r h
 refine fn_ok E0 hm Try.func92 rfl (by decide +kernel) (by rfl) fun Γ hn hk => ?_
 dsimp only [impl_isMode_e,impl_isMode_v]
 replace hn : Γ.n = 5 := hn
 replace hk : Γ.k = 0 := hk
 have H : HS (impl_isMode a0) r := h
 clear h; unfold impl_isMode at H
 try simp -implicitDefEqProofs at H
 refine Tr.of_vc (cl := tabC [(41,impl_inRange_x)]) (E := E0) [] (tab_cons k_impl_inRange tab_nil) hm (by rw [hn]; decide +kernel) ?_
 try simp -implicitDefEqProofs (maxSteps := 999999) [-selQ_sel]
 obtain ⟨v1,h_1,H⟩ := HS.bnd H
 try simp -implicitDefEqProofs (maxSteps := 999999) [-selQ_sel,h_1]
 have hr := (HS.some H).symm; subst hr
 refine Hid.mk ⟨_,Wk.refl _,?_⟩
 try simp -implicitDefEqProofs (maxSteps := 999999) [-selQ_sel,h_1]
theorem impl_isByte_ok0 (hm : Try.prog.follows .mixedOrders = true) (k_impl_inRange : Sound Try.prog 41 impl_inRange_x) : Sound Try.prog 93 impl_isByte_x := by
 refine xOf_sound fun q r h => ?_
 revert h; revert r; revert q; intro a0 r h
 refine fn_ok E0 hm Try.func93 rfl (by decide +kernel) (by rfl) fun Γ hn hk => ?_
 dsimp only [impl_isByte_e,impl_isByte_v]
 replace hn : Γ.n = 5 := hn
 replace hk : Γ.k = 0 := hk
 have H : HS (impl_isByte a0) r := h
 clear h; unfold impl_isByte at H
 try simp -implicitDefEqProofs at H
 refine Tr.of_vc (cl := tabC [(41,impl_inRange_x)]) (E := E0) [] (tab_cons k_impl_inRange tab_nil) hm (by rw [hn]; decide +kernel) ?_
 try simp -implicitDefEqProofs (maxSteps := 999999) [-selQ_sel]
 obtain ⟨v1,h_1,H⟩ := HS.bnd H
 try simp -implicitDefEqProofs (maxSteps := 999999) [-selQ_sel,h_1]
 have hr := (HS.some H).symm; subst hr
 refine Hid.mk ⟨_,Wk.refl _,?_⟩
 try simp -implicitDefEqProofs (maxSteps := 999999) [-selQ_sel,h_1]
theorem laws_toColor_ok0 (hm : Try.prog.follows .mixedOrders = true) : Sound Try.prog 105 laws_toColor_x := by
 refine xOf_sound fun q r h => ?_
 revert h; revert r; revert q; intro a0 r h
 refine fn_ok E0 hm Try.func105 rfl (by decide +kernel) (by rfl) fun Γ hn hk => ?_
 dsimp only [laws_toColor_e,laws_toColor_v]
 replace hn : Γ.n = 17 := hn
 replace hk : Γ.k = 0 := hk
 have H : HS (laws_toColor a0) r := h
 clear h; unfold laws_toColor at H
 try simp -implicitDefEqProofs at H
 refine Tr.of_vc (cl := tabC []) (E := E0) [] tab_nil hm (by rw [hn]; decide +kernel) ?_
 try simp -implicitDefEqProofs (maxSteps := 999999) [-selQ_sel]
 have hr := (HS.some H).symm; subst hr
 refine Hid.mk ⟨_,Wk.refl _,?_⟩
 try simp -implicitDefEqProofs (maxSteps := 999999) [-selQ_sel]
end Go.Proofs.Ytapchldnmkfkoab.Am
