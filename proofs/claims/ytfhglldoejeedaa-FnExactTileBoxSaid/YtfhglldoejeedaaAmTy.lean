import Derived.Test.YtfhglldoejeedaaAmRow
import Derived.Test.YtfhglldoejeedaaProg
import Derived.KernelRfl
import Derived.IntWalk
namespace Go.Proofs.Ytfhglldoejeedaa.Am
open Go Go.Proofs
set_option maxRecDepth 100000
@[simp] theorem art_25 : art Try.prog 25 = none := by kernel_rfl
@[simp] theorem eqk_3 : eqk Try.prog 3 = some (false, [Kc.i]) := by kernel_rfl
@[simp] theorem fld_25_0 : fld Try.prog 25 0 = some (0, TS.sc) := by kernel_rfl
@[simp] theorem fld_25_1 : fld Try.prog 25 1 = some (1, TS.sc) := by kernel_rfl
@[simp] theorem fld_25_2 : fld Try.prog 25 2 = some (2, TS.sc) := by kernel_rfl
@[simp] theorem fld_25_3 : fld Try.prog 25 3 = some (3, TS.sc) := by kernel_rfl
@[simp] theorem isArr_25 : isArr Try.prog 25 = false := by kernel_rfl
@[simp] theorem plc_25 : plc Try.prog 25 = some [(0, 1), (1, 1), (2, 1), (3, 1)] := by kernel_rfl
@[simp] theorem tsh_3 : tsh Try.prog 3 = some TS.sc := by kernel_rfl
@[simp] theorem tsh_25 : tsh Try.prog 25 = some (TS.ag 4) := by kernel_rfl
@[simp] theorem zer_25 : zer Try.prog 25 = some (AV.agg [AV.int IntKind.i64 (0), AV.int IntKind.i64 (0), AV.int IntKind.i64 (0), AV.int IntKind.i64 (0)]) := by kernel_rfl
end Go.Proofs.Ytfhglldoejeedaa.Am
