/- The tables of the program, read: the reader. No condition. -/
import Derived.Test.YtookjkiagdkajaaT
import Derived.KernelRfl
open Go Go.AI Go.Proofs
set_option maxRecDepth 100000
namespace Go.Proofs.Ytookjkiagdkajaa
@[go_sem] theorem tsz_97 : tsz Try.prog 97 = some 2 := by kernel_rfl
@[go_sem] theorem rowt_97 : isRowT Try.prog 97 = some true := by kernel_rfl
@[go_sem] theorem tel_97 : tel Try.prog 97 = none := by kernel_rfl
@[go_sem] theorem tby_97 : tbytes Try.prog 97 = some 32 := by kernel_rfl
@[go_sem] theorem bol_97 : isBoolT Try.prog 97 = false := by kernel_rfl
@[go_sem] theorem plc_97 : placesOf Try.prog 97 = some [(0, 1), (1, 1)] := by kernel_rfl
@[go_sem] theorem knd_97 : kindOf Try.prog 97 = none := by kernel_rfl
@[go_sem] theorem str_97 : isStringT Try.prog 97 = false := by kernel_rfl
@[go_sem] theorem byt_97 : isBytesT Try.prog 97 = false := by kernel_rfl
@[go_sem] theorem slc_97 : isSliceT Try.prog 97 = false := by kernel_rfl
@[go_sem] theorem fld_97_0 : tfld Try.prog 97 0 = some (0, 22) := by kernel_rfl
@[go_sem] theorem fld_97_1 : tfld Try.prog 97 1 = some (1, 3) := by kernel_rfl
@[go_sem] theorem zer_97 : tzero Try.prog 97 = some [.nil, .lit (.int .i64 0)] := by kernel_rfl
end Go.Proofs.Ytookjkiagdkajaa
