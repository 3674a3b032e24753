import Derived.Test.YtapchldnmkfkoabAmIn
import Derived.Test.YtapchldnmkfkoabProg
import Derived.KernelRfl
set_option linter.unusedVariables false
set_option linter.unusedSimpArgs false
set_option linter.unusedSectionVars false
namespace Go.Proofs.Ytapchldnmkfkoab.Am
open Go Go.Proofs
set_option maxRecDepth 100000
set_option linter.unusedSimpArgs false
@[simp] theorem art_24:art Try.prog 24 = none:=by kernel_rfl
@[simp] theorem art_26:art Try.prog 26 = none:=by kernel_rfl
@[simp] theorem art_36:art Try.prog 36 = none:=by kernel_rfl
@[simp] theorem art_37:art Try.prog 37 = none:=by kernel_rfl
@[simp] theorem art_39:art Try.prog 39 = none:=by kernel_rfl
@[simp] theorem art_41:art Try.prog 41 = none:=by kernel_rfl
@[simp] theorem art_43:art Try.prog 43 = none:=by kernel_rfl
@[simp] theorem art_45:art Try.prog 45 = none:=by kernel_rfl
@[simp] theorem art_49:art Try.prog 49 = none:=by kernel_rfl
@[simp] theorem art_53:art Try.prog 53 = none:=by kernel_rfl
@[simp] theorem art_130:art Try.prog 130 = some (4,.sc):=by kernel_rfl
@[simp] theorem deepP_3:deepP Try.prog 3 = false:=by kernel_rfl
@[simp] theorem deepP_43:deepP Try.prog 43 = false:=by kernel_rfl
@[simp] theorem deepP_47:deepP Try.prog 47 = true:=by kernel_rfl
@[simp] theorem deepP_57:deepP Try.prog 57 = false:=by kernel_rfl
@[simp] theorem deepP_61:deepP Try.prog 61 = true:=by kernel_rfl
@[simp] theorem elt_24:elt Try.prog 24 = some (47,(.ag 31),328):=by kernel_rfl
@[simp] theorem elt_36:elt Try.prog 36 = some (3,.sc,8):=by kernel_rfl
@[simp] theorem elt_37:elt Try.prog 37 = some (43,(.ag 2),16):=by kernel_rfl
@[simp] theorem elt_49:elt Try.prog 49 = some (61,(.ag 31),328):=by kernel_rfl
@[simp] theorem elt_53:elt Try.prog 53 = some (57,(.ag 2),16):=by kernel_rfl
@[simp] theorem eqk_3:eqk Try.prog 3 = some (false,[.i]):=by kernel_rfl
@[simp] theorem eqk_4:eqk Try.prog 4 = some (false,[.b]):=by kernel_rfl
@[simp] theorem eqk_41:eqk Try.prog 41 = some (true,[.i,.i,.i,.i]):=by kernel_rfl
@[simp] theorem eqk_43:eqk Try.prog 43 = some (true,[.i,.i]):=by kernel_rfl
@[simp] theorem eqk_45:eqk Try.prog 45 = some (true,[.i,.i,.i,.i,.i,.i,.i,.i,.i,.i,.i,.i,.i]):=by kernel_rfl
@[simp] theorem fld_26_0:fld Try.prog 26 0 = some (0,.sc):=by kernel_rfl
@[simp] theorem fld_35_0:fld Try.prog 35 0 = some (0,.sc):=by kernel_rfl
@[simp] theorem fld_35_1:fld Try.prog 35 1 = some (1,.sc):=by kernel_rfl
@[simp] theorem fld_35_2:fld Try.prog 35 2 = some (2,.sc):=by kernel_rfl
@[simp] theorem fld_35_3:fld Try.prog 35 3 = some (3,.sc):=by kernel_rfl
@[simp] theorem fld_35_4:fld Try.prog 35 4 = some (4,.sc):=by kernel_rfl
@[simp] theorem fld_35_5:fld Try.prog 35 5 = some (5,.sc):=by kernel_rfl
@[simp] theorem fld_39_0:fld Try.prog 39 0 = some (0,.sc):=by kernel_rfl
@[simp] theorem fld_39_1:fld Try.prog 39 1 = some (1,.sc):=by kernel_rfl
@[simp] theorem fld_41_0:fld Try.prog 41 0 = some (0,.sc):=by kernel_rfl
@[simp] theorem fld_41_1:fld Try.prog 41 1 = some (1,.sc):=by kernel_rfl
@[simp] theorem fld_41_2:fld Try.prog 41 2 = some (2,.sc):=by kernel_rfl
@[simp] theorem fld_41_3:fld Try.prog 41 3 = some (3,.sc):=by kernel_rfl
@[simp] theorem fld_43_0:fld Try.prog 43 0 = some (0,.sc):=by kernel_rfl
@[simp] theorem fld_43_1:fld Try.prog 43 1 = some (1,.sc):=by kernel_rfl
@[simp] theorem fld_45_0:fld Try.prog 45 0 = some (0,.sc):=by kernel_rfl
@[simp] theorem fld_45_1:fld Try.prog 45 1 = some (1,(.ag 4)):=by kernel_rfl
@[simp] theorem fld_45_2:fld Try.prog 45 2 = some (5,(.ag 4)):=by kernel_rfl
@[simp] theorem fld_45_3:fld Try.prog 45 3 = some (9,(.ag 2)):=by kernel_rfl
@[simp] theorem fld_45_4:fld Try.prog 45 4 = some (11,(.ag 2)):=by kernel_rfl
@[simp] theorem fld_47_0:fld Try.prog 47 0 = some (0,.sc):=by kernel_rfl
@[simp] theorem fld_47_1:fld Try.prog 47 1 = some (1,.sc):=by kernel_rfl
@[simp] theorem fld_47_2:fld Try.prog 47 2 = some (2,.sc):=by kernel_rfl
@[simp] theorem fld_47_3:fld Try.prog 47 3 = some (3,(.ag 6)):=by kernel_rfl
@[simp] theorem fld_47_4:fld Try.prog 47 4 = some (9,(.ag 2)):=by kernel_rfl
@[simp] theorem fld_47_5:fld Try.prog 47 5 = some (11,.sc):=by kernel_rfl
@[simp] theorem fld_47_6:fld Try.prog 47 6 = some (12,.sc):=by kernel_rfl
@[simp] theorem fld_47_7:fld Try.prog 47 7 = some (13,.sc):=by kernel_rfl
@[simp] theorem fld_47_8:fld Try.prog 47 8 = some (14,(.ag 13)):=by kernel_rfl
@[simp] theorem fld_47_9:fld Try.prog 47 9 = some (27,.sc):=by kernel_rfl
@[simp] theorem fld_47_10:fld Try.prog 47 10 = some (28,.sc):=by kernel_rfl
@[simp] theorem fld_47_11:fld Try.prog 47 11 = some (29,(.ag 2)):=by kernel_rfl
@[simp] theorem fld_51_0:fld Try.prog 51 0 = some (0,.sc):=by kernel_rfl
@[simp] theorem fld_52_0:fld Try.prog 52 0 = some (0,.sc):=by kernel_rfl
@[simp] theorem fld_52_1:fld Try.prog 52 1 = some (1,.sc):=by kernel_rfl
@[simp] theorem fld_52_2:fld Try.prog 52 2 = some (2,.sc):=by kernel_rfl
@[simp] theorem fld_52_3:fld Try.prog 52 3 = some (3,.sc):=by kernel_rfl
@[simp] theorem fld_52_4:fld Try.prog 52 4 = some (4,.sc):=by kernel_rfl
@[simp] theorem fld_52_5:fld Try.prog 52 5 = some (5,.sc):=by kernel_rfl
@[simp] theorem fld_55_0:fld Try.prog 55 0 = some (0,.sc):=by kernel_rfl
@[simp] theorem fld_55_1:fld Try.prog 55 1 = some (1,.sc):=by kernel_rfl
@[simp] theorem fld_56_0:fld Try.prog 56 0 = some (0,.sc):=by kernel_rfl
@[simp] theorem fld_56_1:fld Try.prog 56 1 = some (1,.sc):=by kernel_rfl
@[simp] theorem fld_56_2:fld Try.prog 56 2 = some (2,.sc):=by kernel_rfl
@[simp] theorem fld_56_3:fld Try.prog 56 3 = some (3,.sc):=by kernel_rfl
@[simp] theorem fld_57_0:fld Try.prog 57 0 = some (0,.sc):=by kernel_rfl
@[simp] theorem fld_57_1:fld Try.prog 57 1 = some (1,.sc):=by kernel_rfl
@[simp] theorem fld_59_0:fld Try.prog 59 0 = some (0,.sc):=by kernel_rfl
@[simp] theorem fld_59_1:fld Try.prog 59 1 = some (1,(.ag 4)):=by kernel_rfl
@[simp] theorem fld_59_2:fld Try.prog 59 2 = some (5,(.ag 4)):=by kernel_rfl
@[simp] theorem fld_59_3:fld Try.prog 59 3 = some (9,(.ag 2)):=by kernel_rfl
@[simp] theorem fld_59_4:fld Try.prog 59 4 = some (11,(.ag 2)):=by kernel_rfl
@[simp] theorem fld_61_0:fld Try.prog 61 0 = some (0,.sc):=by kernel_rfl
@[simp] theorem fld_61_1:fld Try.prog 61 1 = some (1,.sc):=by kernel_rfl
@[simp] theorem fld_61_2:fld Try.prog 61 2 = some (2,.sc):=by kernel_rfl
@[simp] theorem fld_61_3:fld Try.prog 61 3 = some (3,(.ag 6)):=by kernel_rfl
@[simp] theorem fld_61_4:fld Try.prog 61 4 = some (9,(.ag 2)):=by kernel_rfl
@[simp] theorem fld_61_5:fld Try.prog 61 5 = some (11,.sc):=by kernel_rfl
@[simp] theorem fld_61_6:fld Try.prog 61 6 = some (12,.sc):=by kernel_rfl
@[simp] theorem fld_61_7:fld Try.prog 61 7 = some (13,.sc):=by kernel_rfl
@[simp] theorem fld_61_8:fld Try.prog 61 8 = some (14,(.ag 13)):=by kernel_rfl
@[simp] theorem fld_61_9:fld Try.prog 61 9 = some (27,.sc):=by kernel_rfl
@[simp] theorem fld_61_10:fld Try.prog 61 10 = some (28,.sc):=by kernel_rfl
@[simp] theorem fld_61_11:fld Try.prog 61 11 = some (29,(.ag 2)):=by kernel_rfl
@[simp] theorem isArr_26:isArr Try.prog 26 = false:=by kernel_rfl
@[simp] theorem isArr_39:isArr Try.prog 39 = false:=by kernel_rfl
@[simp] theorem isArr_41:isArr Try.prog 41 = false:=by kernel_rfl
@[simp] theorem isArr_43:isArr Try.prog 43 = false:=by kernel_rfl
@[simp] theorem isArr_45:isArr Try.prog 45 = false:=by kernel_rfl
@[simp] theorem isArr_130:isArr Try.prog 130 = true:=by kernel_rfl
@[simp] theorem isBld_26:isBld Try.prog 26 = false:=by kernel_rfl
@[simp] theorem isBld_35:isBld Try.prog 35 = false:=by kernel_rfl
@[simp] theorem isBld_39:isBld Try.prog 39 = false:=by kernel_rfl
@[simp] theorem isBld_41:isBld Try.prog 41 = false:=by kernel_rfl
@[simp] theorem isBld_43:isBld Try.prog 43 = false:=by kernel_rfl
@[simp] theorem isBld_45:isBld Try.prog 45 = false:=by kernel_rfl
@[simp] theorem isBld_47:isBld Try.prog 47 = false:=by kernel_rfl
@[simp] theorem isStr_24:isStr Try.prog 24 = false:=by kernel_rfl
@[simp] theorem isStr_130:isStr Try.prog 130 = false:=by kernel_rfl
@[simp] theorem lnK_24:lnK Try.prog 24 = some .sl:=by kernel_rfl
@[simp] theorem lnK_36:lnK Try.prog 36 = some .sl:=by kernel_rfl
@[simp] theorem lnK_37:lnK Try.prog 37 = some .sl:=by kernel_rfl
@[simp] theorem lnK_49:lnK Try.prog 49 = some .sl:=by kernel_rfl
@[simp] theorem lnK_53:lnK Try.prog 53 = some .sl:=by kernel_rfl
@[simp] theorem plc_26:plc Try.prog 26 = some [(0,1)]:=by kernel_rfl
@[simp] theorem plc_39:plc Try.prog 39 = some [(0,1),(1,1)]:=by kernel_rfl
@[simp] theorem plc_41:plc Try.prog 41 = some [(0,1),(1,1),(2,1),(3,1)]:=by kernel_rfl
@[simp] theorem plc_43:plc Try.prog 43 = some [(0,1),(1,1)]:=by kernel_rfl
@[simp] theorem plc_45:plc Try.prog 45 = some [(0,1),(1,4),(5,4),(9,2),(11,2)]:=by kernel_rfl
@[simp] theorem plc_130:plc Try.prog 130 = none:=by kernel_rfl
@[simp] theorem srcTy_3:srcTy Try.prog 3 = false:=by kernel_rfl
@[simp] theorem srcTy_24:srcTy Try.prog 24 = true:=by kernel_rfl
@[simp] theorem srcTy_36:srcTy Try.prog 36 = true:=by kernel_rfl
@[simp] theorem srcTy_37:srcTy Try.prog 37 = true:=by kernel_rfl
@[simp] theorem tsh_3:tsh Try.prog 3 = some .sc:=by kernel_rfl
@[simp] theorem tsh_4:tsh Try.prog 4 = some .sc:=by kernel_rfl
@[simp] theorem tsh_24:tsh Try.prog 24 = some .sc:=by kernel_rfl
@[simp] theorem tsh_26:tsh Try.prog 26 = some (.ag 1):=by kernel_rfl
@[simp] theorem tsh_35:tsh Try.prog 35 = some (.ag 6):=by kernel_rfl
@[simp] theorem tsh_36:tsh Try.prog 36 = some .sc:=by kernel_rfl
@[simp] theorem tsh_37:tsh Try.prog 37 = some .sc:=by kernel_rfl
@[simp] theorem tsh_39:tsh Try.prog 39 = some (.ag 2):=by kernel_rfl
@[simp] theorem tsh_41:tsh Try.prog 41 = some (.ag 4):=by kernel_rfl
@[simp] theorem tsh_43:tsh Try.prog 43 = some (.ag 2):=by kernel_rfl
@[simp] theorem tsh_45:tsh Try.prog 45 = some (.ag 13):=by kernel_rfl
@[simp] theorem tsh_47:tsh Try.prog 47 = some (.ag 31):=by kernel_rfl
@[simp] theorem tsh_49:tsh Try.prog 49 = some .sc:=by kernel_rfl
@[simp] theorem tsh_51:tsh Try.prog 51 = some (.ag 1):=by kernel_rfl
@[simp] theorem tsh_52:tsh Try.prog 52 = some (.ag 6):=by kernel_rfl
@[simp] theorem tsh_53:tsh Try.prog 53 = some .sc:=by kernel_rfl
@[simp] theorem tsh_55:tsh Try.prog 55 = some (.ag 2):=by kernel_rfl
@[simp] theorem tsh_56:tsh Try.prog 56 = some (.ag 4):=by kernel_rfl
@[simp] theorem tsh_57:tsh Try.prog 57 = some (.ag 2):=by kernel_rfl
@[simp] theorem tsh_59:tsh Try.prog 59 = some (.ag 13):=by kernel_rfl
@[simp] theorem tsh_61:tsh Try.prog 61 = some (.ag 31):=by kernel_rfl
@[simp] theorem zer_3:zer Try.prog 3 = some (AV.int .i64 0):=by kernel_rfl
@[simp] theorem zer_26:zer Try.prog 26 = some (AV.agg [AV.nilsl]):=by kernel_rfl
@[simp] theorem zer_35:zer Try.prog 35 = some (AV.agg [AV.int .i64 0,AV.int .i64 0,AV.int .i64 0,AV.int .i64 0,AV.int .i64 0,AV.int .i64 0]):=by kernel_rfl
@[simp] theorem zer_39:zer Try.prog 39 = some (AV.agg [AV.nilsl,AV.nilsl]):=by kernel_rfl
@[simp] theorem zer_41:zer Try.prog 41 = some (AV.agg [AV.int .i64 0,AV.int .i64 0,AV.int .i64 0,AV.int .i64 0]):=by kernel_rfl
@[simp] theorem zer_43:zer Try.prog 43 = some (AV.agg [AV.int .i64 0,AV.int .i64 0]):=by kernel_rfl
@[simp] theorem zer_45:zer Try.prog 45 = some (AV.agg [AV.int .i64 0,AV.int .i64 0,AV.int .i64 0,AV.int .i64 0,AV.int .i64 0,AV.int .i64 0,AV.int .i64 0,AV.int .i64 0,AV.int .i64 0,AV.int .i64 0,AV.int .i64 0,AV.int .i64 0,AV.int .i64 0]):=by kernel_rfl
@[simp] theorem zer_47:zer Try.prog 47 = some (AV.agg [AV.int .i64 0,AV.int .i64 0,AV.bool false,AV.int .i64 0,AV.int .i64 0,AV.int .i64 0,AV.int .i64 0,AV.int .i64 0,AV.int .i64 0,AV.nilsl,AV.nilsl,AV.bool false,AV.int .i64 0,AV.nilsl,AV.int .i64 0,AV.int .i64 0,AV.int .i64 0,AV.int .i64 0,AV.int .i64 0,AV.int .i64 0,AV.int .i64 0,AV.int .i64 0,AV.int .i64 0,AV.int .i64 0,AV.int .i64 0,AV.int .i64 0,AV.int .i64 0,AV.int .i64 0,AV.int .i64 0,AV.nilsl,AV.nilsl]):=by kernel_rfl
@[simp] theorem zer_57:zer Try.prog 57 = some (AV.agg [AV.int .i64 0,AV.int .i64 0]):=by kernel_rfl
@[simp] theorem zer_61:zer Try.prog 61 = some (AV.agg [AV.int .i64 0,AV.int .i64 0,AV.bool false,AV.int .i64 0,AV.int .i64 0,AV.int .i64 0,AV.int .i64 0,AV.int .i64 0,AV.int .i64 0,AV.nilsl,AV.nilsl,AV.bool false,AV.int .i64 0,AV.nilsl,AV.int .i64 0,AV.int .i64 0,AV.int .i64 0,AV.int .i64 0,AV.int .i64 0,AV.int .i64 0,AV.int .i64 0,AV.int .i64 0,AV.int .i64 0,AV.int .i64 0,AV.int .i64 0,AV.int .i64 0,AV.int .i64 0,AV.int .i64 0,AV.int .i64 0,AV.nilsl,AV.nilsl]):=by kernel_rfl
@[simp] theorem zer_130:zer Try.prog 130 = some (AV.agg [AV.int .i64 0,AV.int .i64 0,AV.int .i64 0,AV.int .i64 0]):=by kernel_rfl
@[simp] theorem zsP_6_3:zsP Try.prog 6 3 = [0]:=by kernel_rfl
@[simp] theorem zsP_6_43:zsP Try.prog 6 43 = [0,0]:=by kernel_rfl
@[simp] theorem zsP_6_47:zsP Try.prog 6 47 = [0,0,0,0,0,0,0,0,0,1,2,0,0,1,0,0,0,0,0,0,0,0,0,0,0,0,0,0,0,1,2]:=by kernel_rfl
@[simp] theorem zsP_6_57:zsP Try.prog 6 57 = [0,0]:=by kernel_rfl
@[simp] theorem zsP_6_61:zsP Try.prog 6 61 = [0,0,0,0,0,0,0,0,0,1,2,0,0,1,0,0,0,0,0,0,0,0,0,0,0,0,0,0,0,1,2]:=by kernel_rfl
def E0:FuncId→Md:=fun f=>(lkp [(10,{ keep:=true,lend:=true }),(19,{ keep:=true,lend:=true }),(20,{ keep:=true,lend:=true }),(24,{ own:=true }),(35,{ keep:=true,lend:=true }),(38,{ keep:=true,lend:=true }),(39,{ own:=true,keep:=true }),(40,{ own:=true,keep:=true }),(59,{ keep:=true,lend:=true }),(61,{ keep:=true,lend:=true }),(62,{ keep:=true,lend:=true }),(64,{ keep:=true,lend:=true }),(70,{ own:=true }),(72,{ own:=true }),(104,{ keep:=true,lend:=true }),(107,{ keep:=true,lend:=true }),(108,{ keep:=true,lend:=true }),(112,{ own:=true }),(127,{ keep:=true,lend:=true })] f).getD {}
@[simp] theorem E0_7:E0 7 = {}:=rfl
@[simp] theorem E0_10:E0 10 = { keep:=true,lend:=true }:=rfl
@[simp] theorem E0_11:E0 11 = {}:=rfl
@[simp] theorem E0_13:E0 13 = {}:=rfl
@[simp] theorem E0_14:E0 14 = {}:=rfl
@[simp] theorem E0_16:E0 16 = {}:=rfl
@[simp] theorem E0_17:E0 17 = {}:=rfl
@[simp] theorem E0_19:E0 19 = { keep:=true,lend:=true }:=rfl
@[simp] theorem E0_20:E0 20 = { keep:=true,lend:=true }:=rfl
@[simp] theorem E0_22:E0 22 = {}:=rfl
@[simp] theorem E0_23:E0 23 = {}:=rfl
@[simp] theorem E0_24:E0 24 = { own:=true }:=rfl
@[simp] theorem E0_26:E0 26 = {}:=rfl
@[simp] theorem E0_35:E0 35 = { keep:=true,lend:=true }:=rfl
@[simp] theorem E0_36:E0 36 = {}:=rfl
@[simp] theorem E0_37:E0 37 = {}:=rfl
@[simp] theorem E0_38:E0 38 = { keep:=true,lend:=true }:=rfl
@[simp] theorem E0_39:E0 39 = { own:=true,keep:=true }:=rfl
@[simp] theorem E0_40:E0 40 = { own:=true,keep:=true }:=rfl
@[simp] theorem E0_41:E0 41 = {}:=rfl
@[simp] theorem E0_42:E0 42 = {}:=rfl
@[simp] theorem E0_43:E0 43 = {}:=rfl
@[simp] theorem E0_44:E0 44 = {}:=rfl
@[simp] theorem E0_45:E0 45 = {}:=rfl
@[simp] theorem E0_46:E0 46 = {}:=rfl
@[simp] theorem E0_47:E0 47 = {}:=rfl
@[simp] theorem E0_48:E0 48 = {}:=rfl
@[simp] theorem E0_49:E0 49 = {}:=rfl
@[simp] theorem E0_50:E0 50 = {}:=rfl
@[simp] theorem E0_51:E0 51 = {}:=rfl
@[simp] theorem E0_54:E0 54 = {}:=rfl
@[simp] theorem E0_55:E0 55 = {}:=rfl
@[simp] theorem E0_56:E0 56 = {}:=rfl
@[simp] theorem E0_57:E0 57 = {}:=rfl
@[simp] theorem E0_58:E0 58 = {}:=rfl
@[simp] theorem E0_59:E0 59 = { keep:=true,lend:=true }:=rfl
@[simp] theorem E0_60:E0 60 = {}:=rfl
@[simp] theorem E0_61:E0 61 = { keep:=true,lend:=true }:=rfl
@[simp] theorem E0_62:E0 62 = { keep:=true,lend:=true }:=rfl
@[simp] theorem E0_63:E0 63 = {}:=rfl
@[simp] theorem E0_64:E0 64 = { keep:=true,lend:=true }:=rfl
@[simp] theorem E0_65:E0 65 = {}:=rfl
@[simp] theorem E0_66:E0 66 = {}:=rfl
@[simp] theorem E0_67:E0 67 = {}:=rfl
@[simp] theorem E0_68:E0 68 = {}:=rfl
@[simp] theorem E0_69:E0 69 = {}:=rfl
@[simp] theorem E0_70:E0 70 = { own:=true }:=rfl
@[simp] theorem E0_72:E0 72 = { own:=true }:=rfl
@[simp] theorem E0_73:E0 73 = {}:=rfl
@[simp] theorem E0_83:E0 83 = {}:=rfl
@[simp] theorem E0_84:E0 84 = {}:=rfl
@[simp] theorem E0_87:E0 87 = {}:=rfl
@[simp] theorem E0_88:E0 88 = {}:=rfl
@[simp] theorem E0_89:E0 89 = {}:=rfl
@[simp] theorem E0_90:E0 90 = {}:=rfl
@[simp] theorem E0_91:E0 91 = {}:=rfl
@[simp] theorem E0_92:E0 92 = {}:=rfl
@[simp] theorem E0_93:E0 93 = {}:=rfl
@[simp] theorem E0_94:E0 94 = {}:=rfl
@[simp] theorem E0_95:E0 95 = {}:=rfl
@[simp] theorem E0_97:E0 97 = {}:=rfl
@[simp] theorem E0_98:E0 98 = {}:=rfl
@[simp] theorem E0_99:E0 99 = {}:=rfl
@[simp] theorem E0_100:E0 100 = {}:=rfl
@[simp] theorem E0_101:E0 101 = {}:=rfl
@[simp] theorem E0_102:E0 102 = {}:=rfl
@[simp] theorem E0_103:E0 103 = {}:=rfl
@[simp] theorem E0_104:E0 104 = { keep:=true,lend:=true }:=rfl
@[simp] theorem E0_105:E0 105 = {}:=rfl
@[simp] theorem E0_106:E0 106 = {}:=rfl
@[simp] theorem E0_107:E0 107 = { keep:=true,lend:=true }:=rfl
@[simp] theorem E0_108:E0 108 = { keep:=true,lend:=true }:=rfl
@[simp] theorem E0_109:E0 109 = {}:=rfl
@[simp] theorem E0_110:E0 110 = {}:=rfl
@[simp] theorem E0_111:E0 111 = {}:=rfl
@[simp] theorem E0_112:E0 112 = { own:=true }:=rfl
@[simp] theorem E0_113:E0 113 = {}:=rfl
@[simp] theorem E0_114:E0 114 = {}:=rfl
@[simp] theorem E0_119:E0 119 = {}:=rfl
@[simp] theorem E0_120:E0 120 = {}:=rfl
@[simp] theorem E0_121:E0 121 = {}:=rfl
@[simp] theorem E0_122:E0 122 = {}:=rfl
@[simp] theorem E0_123:E0 123 = {}:=rfl
@[simp] theorem E0_124:E0 124 = {}:=rfl
@[simp] theorem E0_125:E0 125 = {}:=rfl
@[simp] theorem E0_126:E0 126 = {}:=rfl
@[simp] theorem E0_127:E0 127 = { keep:=true,lend:=true }:=rfl
structure TMat where
 a:Int
 b:Int
 c:Int
 d:Int
 e:Int
 f:Int
@[simp] def eMat (a:TMat):AV:=.agg [AV.int .i64 a.a,AV.int .i64 a.b,AV.int .i64 a.c,AV.int .i64 a.d,AV.int .i64 a.e,AV.int .i64 a.f]
@[simp] theorem eta_TMat (a:TMat):TMat.mk a.a a.b a.c a.d a.e a.f = a:=rfl
structure TPoint where
 x:Int
 y:Int
@[simp] def ePoint (a:TPoint):AV:=.agg [AV.int .i64 a.x,AV.int .i64 a.y]
@[simp] theorem wid_ePoint:wid ePoint 2 = True:=eq_true ⟨by simp⟩
@[simp] theorem eta_TPoint (a:TPoint):TPoint.mk a.x a.y = a:=rfl
theorem inj_ePoint:Inj ePoint:=by
 constructor
 rintro ⟨x0,x1⟩ ⟨y0,y1⟩ h
 simp at h
 simp [h]
@[simp] theorem Inj_ePoint:Inj ePoint = True:=eq_true inj_ePoint
@[simp] theorem pln_ePoint:pln ePoint = True:=eq_true ⟨fun a=>by simp⟩
structure TPath where
 verbs:List Int
 points:List TPoint
@[simp] def ePath (a:TPath):AV:=.agg [AV.fsl (List.map (AV.int .i64) a.verbs),AV.fsl (List.map ePoint a.points)]
@[simp] theorem eta_TPath (a:TPath):TPath.mk a.verbs a.points = a:=rfl
structure TColor where
 r:Int
 g:Int
 b:Int
 a:Int
@[simp] def eColor (a:TColor):AV:=.agg [AV.int .i64 a.r,AV.int .i64 a.g,AV.int .i64 a.b,AV.int .i64 a.a]
@[simp] theorem eta_TColor (a:TColor):TColor.mk a.r a.g a.b a.a = a:=rfl
structure TPaint where
 kind:Int
 first:TColor
 last:TColor
 from_:TPoint
 to:TPoint
@[simp] def ePaint (a:TPaint):AV:=.agg [AV.int .i64 a.kind,AV.int .i64 a.first.r,AV.int .i64 a.first.g,AV.int .i64 a.first.b,AV.int .i64 a.first.a,AV.int .i64 a.last.r,AV.int .i64 a.last.g,AV.int .i64 a.last.b,AV.int .i64 a.last.a,AV.int .i64 a.from_.x,AV.int .i64 a.from_.y,AV.int .i64 a.to.x,AV.int .i64 a.to.y]
@[simp] theorem eta_TPaint (a:TPaint):TPaint.mk a.kind a.first a.last a.from_ a.to = a:=rfl
structure TNode where
 id:Int
 parent:Int
 group:Bool
 mat:TMat
 path:TPath
 even:Bool
 width:Int
 dashes:List Int
 paint:TPaint
 mode:Int
 fade:Int
 clip:TPath
@[simp] def eNode (a:TNode):AV:=.agg [AV.int .i64 a.id,AV.int .i64 a.parent,AV.bool a.group,AV.int .i64 a.mat.a,AV.int .i64 a.mat.b,AV.int .i64 a.mat.c,AV.int .i64 a.mat.d,AV.int .i64 a.mat.e,AV.int .i64 a.mat.f,AV.fsl (List.map (AV.int .i64) a.path.verbs),AV.fsl (List.map ePoint a.path.points),AV.bool a.even,AV.int .i64 a.width,AV.fsl (List.map (AV.int .i64) a.dashes),AV.int .i64 a.paint.kind,AV.int .i64 a.paint.first.r,AV.int .i64 a.paint.first.g,AV.int .i64 a.paint.first.b,AV.int .i64 a.paint.first.a,AV.int .i64 a.paint.last.r,AV.int .i64 a.paint.last.g,AV.int .i64 a.paint.last.b,AV.int .i64 a.paint.last.a,AV.int .i64 a.paint.from_.x,AV.int .i64 a.paint.from_.y,AV.int .i64 a.paint.to.x,AV.int .i64 a.paint.to.y,AV.int .i64 a.mode,AV.int .i64 a.fade,AV.fsl (List.map (AV.int .i64) a.clip.verbs),AV.fsl (List.map ePoint a.clip.points)]
@[simp] theorem wid_eNode:wid eNode 31 = True:=eq_true ⟨by simp⟩
@[simp] theorem eta_TNode (a:TNode):TNode.mk a.id a.parent a.group a.mat a.path a.even a.width a.dashes a.paint a.mode a.fade a.clip = a:=rfl
theorem inj_eNode:Inj eNode:=by
 constructor
 rintro ⟨x0,x1,x2,⟨x3,x4,x5,x6,x7,x8⟩,⟨x9,x10⟩,x11,x12,x13,⟨x14,⟨x15,x16,x17,x18⟩,⟨x19,x20,x21,x22⟩,⟨x23,x24⟩,⟨x25,x26⟩⟩,x27,x28,⟨x29,x30⟩⟩ ⟨y0,y1,y2,⟨y3,y4,y5,y6,y7,y8⟩,⟨y9,y10⟩,y11,y12,y13,⟨y14,⟨y15,y16,y17,y18⟩,⟨y19,y20,y21,y22⟩,⟨y23,y24⟩,⟨y25,y26⟩⟩,y27,y28,⟨y29,y30⟩⟩ h
 simp at h
 simp [h]
@[simp] theorem Inj_eNode:Inj eNode = True:=eq_true inj_eNode
@[simp] theorem nid_eNode:nid eNode = True:=eq_true ⟨fun a=>by simp⟩
structure TScene where
 nodes:List TNode
@[simp] def eScene (a:TScene):AV:=.agg [AV.fsl (List.map eNode a.nodes)]
@[simp] theorem eta_TScene (a:TScene):TScene.mk a.nodes = a:=rfl
structure TPathR where
 verbs:Option Value
 points:Option Value
@[simp] theorem eta_TPathR (a:TPathR):TPathR.mk a.verbs a.points = a:=rfl
structure TNodeR where
 id:Int
 parent:Int
 group:Bool
 mat:TMat
 path:TPathR
 even:Bool
 width:Int
 dashes:Option Value
 paint:TPaint
 mode:Int
 fade:Int
 clip:TPathR
@[simp] def eNodeR (a:TNodeR):AV:=.agg [AV.int .i64 a.id,AV.int .i64 a.parent,AV.bool a.group,AV.int .i64 a.mat.a,AV.int .i64 a.mat.b,AV.int .i64 a.mat.c,AV.int .i64 a.mat.d,AV.int .i64 a.mat.e,AV.int .i64 a.mat.f,eO a.path.verbs,eO a.path.points,AV.bool a.even,AV.int .i64 a.width,eO a.dashes,AV.int .i64 a.paint.kind,AV.int .i64 a.paint.first.r,AV.int .i64 a.paint.first.g,AV.int .i64 a.paint.first.b,AV.int .i64 a.paint.first.a,AV.int .i64 a.paint.last.r,AV.int .i64 a.paint.last.g,AV.int .i64 a.paint.last.b,AV.int .i64 a.paint.last.a,AV.int .i64 a.paint.from_.x,AV.int .i64 a.paint.from_.y,AV.int .i64 a.paint.to.x,AV.int .i64 a.paint.to.y,AV.int .i64 a.mode,AV.int .i64 a.fade,eO a.clip.verbs,eO a.clip.points]
@[simp] theorem wid_eNodeR:wid eNodeR 31 = True:=eq_true ⟨by simp⟩
@[simp] theorem eta_TNodeR (a:TNodeR):TNodeR.mk a.id a.parent a.group a.mat a.path a.even a.width a.dashes a.paint a.mode a.fade a.clip = a:=rfl
theorem inj_eNodeR:Inj eNodeR:=by
 constructor
 rintro ⟨x0,x1,x2,⟨x3,x4,x5,x6,x7,x8⟩,⟨x9,x10⟩,x11,x12,x13,⟨x14,⟨x15,x16,x17,x18⟩,⟨x19,x20,x21,x22⟩,⟨x23,x24⟩,⟨x25,x26⟩⟩,x27,x28,⟨x29,x30⟩⟩ ⟨y0,y1,y2,⟨y3,y4,y5,y6,y7,y8⟩,⟨y9,y10⟩,y11,y12,y13,⟨y14,⟨y15,y16,y17,y18⟩,⟨y19,y20,y21,y22⟩,⟨y23,y24⟩,⟨y25,y26⟩⟩,y27,y28,⟨y29,y30⟩⟩ h
 simp at h
 simp [h]
@[simp] theorem Inj_eNodeR:Inj eNodeR = True:=eq_true inj_eNodeR
end Go.Proofs.Ytapchldnmkfkoab.Am
