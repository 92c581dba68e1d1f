/- The tables of the program, read: types and functions. No condition. -/
import Derived.Test.YtlphbpjejdhaoaaProg
import Derived.Test.YtlphbpjejdhaoaaAi3
import Derived.KernelRfl
open Go Go.AI Go.Proofs
set_option maxRecDepth 100000
namespace Go.Proofs.Ytlphbpjejdhaoaa
@[go_sem] theorem tsz_3 : tsz Try.prog 3 = some 1 := by kernel_rfl
@[go_sem] theorem rowt_3 : isRowT Try.prog 3 = some false := by kernel_rfl
@[go_sem] theorem tel_3 : tel Try.prog 3 = none := by kernel_rfl
@[go_sem] theorem tby_3 : tbytes Try.prog 3 = some 8 := by kernel_rfl
@[go_sem] theorem bol_3 : isBoolT Try.prog 3 = false := by kernel_rfl
@[go_sem] theorem plc_3 : placesOf Try.prog 3 = none := by kernel_rfl
@[go_sem] theorem knd_3 : kindOf Try.prog 3 = some IntKind.i64 := by kernel_rfl
@[go_sem] theorem str_3 : isStringT Try.prog 3 = false := by kernel_rfl
@[go_sem] theorem byt_3 : isBytesT Try.prog 3 = false := by kernel_rfl
@[go_sem] theorem slc_3 : isSliceT Try.prog 3 = false := by kernel_rfl
@[go_sem] theorem zer_3 : tzero Try.prog 3 = some [.lit (.int .i64 0)] := by kernel_rfl
@[go_sem] theorem tsz_4 : tsz Try.prog 4 = some 1 := by kernel_rfl
@[go_sem] theorem rowt_4 : isRowT Try.prog 4 = some false := by kernel_rfl
@[go_sem] theorem tel_4 : tel Try.prog 4 = none := by kernel_rfl
@[go_sem] theorem tby_4 : tbytes Try.prog 4 = some 1 := by kernel_rfl
@[go_sem] theorem bol_4 : isBoolT Try.prog 4 = true := by kernel_rfl
@[go_sem] theorem plc_4 : placesOf Try.prog 4 = none := by kernel_rfl
@[go_sem] theorem knd_4 : kindOf Try.prog 4 = none := by kernel_rfl
@[go_sem] theorem str_4 : isStringT Try.prog 4 = false := by kernel_rfl
@[go_sem] theorem byt_4 : isBytesT Try.prog 4 = false := by kernel_rfl
@[go_sem] theorem slc_4 : isSliceT Try.prog 4 = false := by kernel_rfl
@[go_sem] theorem zer_4 : tzero Try.prog 4 = some [.lit (.bool false)] := by kernel_rfl
@[go_sem] theorem tsz_5 : tsz Try.prog 5 = some 1 := by kernel_rfl
@[go_sem] theorem rowt_5 : isRowT Try.prog 5 = some false := by kernel_rfl
@[go_sem] theorem tel_5 : tel Try.prog 5 = none := by kernel_rfl
@[go_sem] theorem tby_5 : tbytes Try.prog 5 = some 1 := by kernel_rfl
@[go_sem] theorem bol_5 : isBoolT Try.prog 5 = false := by kernel_rfl
@[go_sem] theorem plc_5 : placesOf Try.prog 5 = none := by kernel_rfl
@[go_sem] theorem knd_5 : kindOf Try.prog 5 = some IntKind.u8 := by kernel_rfl
@[go_sem] theorem str_5 : isStringT Try.prog 5 = false := by kernel_rfl
@[go_sem] theorem byt_5 : isBytesT Try.prog 5 = false := by kernel_rfl
@[go_sem] theorem slc_5 : isSliceT Try.prog 5 = false := by kernel_rfl
@[go_sem] theorem zer_5 : tzero Try.prog 5 = some [.lit (.int .u8 0)] := by kernel_rfl
@[go_sem] theorem tsz_9 : tsz Try.prog 9 = some 1 := by kernel_rfl
@[go_sem] theorem rowt_9 : isRowT Try.prog 9 = some false := by kernel_rfl
@[go_sem] theorem tel_9 : tel Try.prog 9 = none := by kernel_rfl
@[go_sem] theorem tby_9 : tbytes Try.prog 9 = some 16 := by kernel_rfl
@[go_sem] theorem bol_9 : isBoolT Try.prog 9 = false := by kernel_rfl
@[go_sem] theorem plc_9 : placesOf Try.prog 9 = none := by kernel_rfl
@[go_sem] theorem knd_9 : kindOf Try.prog 9 = none := by kernel_rfl
@[go_sem] theorem str_9 : isStringT Try.prog 9 = true := by kernel_rfl
@[go_sem] theorem byt_9 : isBytesT Try.prog 9 = false := by kernel_rfl
@[go_sem] theorem slc_9 : isSliceT Try.prog 9 = false := by kernel_rfl
@[go_sem] theorem zer_9 : tzero Try.prog 9 = some [.lit (.string ⟨#[]⟩)] := by kernel_rfl
@[go_sem] theorem und_9 : Try.prog.underlying 9 = some .string := by kernel_rfl
@[go_sem] theorem tsz_22 : tsz Try.prog 22 = some 1 := by kernel_rfl
@[go_sem] theorem rowt_22 : isRowT Try.prog 22 = some false := by kernel_rfl
@[go_sem] theorem tel_22 : tel Try.prog 22 = some 5 := by kernel_rfl
@[go_sem] theorem tby_22 : tbytes Try.prog 22 = some 24 := by kernel_rfl
@[go_sem] theorem bol_22 : isBoolT Try.prog 22 = false := by kernel_rfl
@[go_sem] theorem plc_22 : placesOf Try.prog 22 = none := by kernel_rfl
@[go_sem] theorem knd_22 : kindOf Try.prog 22 = none := by kernel_rfl
@[go_sem] theorem str_22 : isStringT Try.prog 22 = false := by kernel_rfl
@[go_sem] theorem byt_22 : isBytesT Try.prog 22 = true := by kernel_rfl
@[go_sem] theorem slc_22 : isSliceT Try.prog 22 = true := by kernel_rfl
@[go_sem] theorem zer_22 : tzero Try.prog 22 = some [.nil] := by kernel_rfl
@[go_sem] theorem tsz_23 : tsz Try.prog 23 = some 1 := by kernel_rfl
@[go_sem] theorem rowt_23 : isRowT Try.prog 23 = some false := by kernel_rfl
@[go_sem] theorem tel_23 : tel Try.prog 23 = some 28 := by kernel_rfl
@[go_sem] theorem tby_23 : tbytes Try.prog 23 = some 24 := by kernel_rfl
@[go_sem] theorem bol_23 : isBoolT Try.prog 23 = false := by kernel_rfl
@[go_sem] theorem plc_23 : placesOf Try.prog 23 = none := by kernel_rfl
@[go_sem] theorem knd_23 : kindOf Try.prog 23 = none := by kernel_rfl
@[go_sem] theorem str_23 : isStringT Try.prog 23 = false := by kernel_rfl
@[go_sem] theorem byt_23 : isBytesT Try.prog 23 = false := by kernel_rfl
@[go_sem] theorem slc_23 : isSliceT Try.prog 23 = true := by kernel_rfl
@[go_sem] theorem zer_23 : tzero Try.prog 23 = some [.nil] := by kernel_rfl
@[go_sem] theorem tsz_26 : tsz Try.prog 26 = some 1 := by kernel_rfl
@[go_sem] theorem rowt_26 : isRowT Try.prog 26 = some false := by kernel_rfl
@[go_sem] theorem tel_26 : tel Try.prog 26 = some 42 := by kernel_rfl
@[go_sem] theorem tby_26 : tbytes Try.prog 26 = some 24 := by kernel_rfl
@[go_sem] theorem bol_26 : isBoolT Try.prog 26 = false := by kernel_rfl
@[go_sem] theorem plc_26 : placesOf Try.prog 26 = none := by kernel_rfl
@[go_sem] theorem knd_26 : kindOf Try.prog 26 = none := by kernel_rfl
@[go_sem] theorem str_26 : isStringT Try.prog 26 = false := by kernel_rfl
@[go_sem] theorem byt_26 : isBytesT Try.prog 26 = false := by kernel_rfl
@[go_sem] theorem slc_26 : isSliceT Try.prog 26 = true := by kernel_rfl
@[go_sem] theorem zer_26 : tzero Try.prog 26 = some [.nil] := by kernel_rfl
@[go_sem] theorem tsz_28 : tsz Try.prog 28 = some 3 := by kernel_rfl
@[go_sem] theorem rowt_28 : isRowT Try.prog 28 = some true := by kernel_rfl
@[go_sem] theorem tel_28 : tel Try.prog 28 = none := by kernel_rfl
@[go_sem] theorem tby_28 : tbytes Try.prog 28 = some 48 := by kernel_rfl
@[go_sem] theorem bol_28 : isBoolT Try.prog 28 = false := by kernel_rfl
@[go_sem] theorem plc_28 : placesOf Try.prog 28 = some [(0, 1), (1, 1), (2, 1)] := by kernel_rfl
@[go_sem] theorem knd_28 : kindOf Try.prog 28 = none := by kernel_rfl
@[go_sem] theorem str_28 : isStringT Try.prog 28 = false := by kernel_rfl
@[go_sem] theorem byt_28 : isBytesT Try.prog 28 = false := by kernel_rfl
@[go_sem] theorem slc_28 : isSliceT Try.prog 28 = false := by kernel_rfl
@[go_sem] theorem fld_28_0 : tfld Try.prog 28 0 = some (0, 9) := by kernel_rfl
@[go_sem] theorem fld_28_1 : tfld Try.prog 28 1 = some (1, 4) := by kernel_rfl
@[go_sem] theorem fld_28_2 : tfld Try.prog 28 2 = some (2, 26) := by kernel_rfl
@[go_sem] theorem zer_28 : tzero Try.prog 28 = some [.lit (.string ⟨#[]⟩), .lit (.bool false), .nil] := by kernel_rfl
@[go_sem] theorem tsz_31 : tsz Try.prog 31 = some 2 := by kernel_rfl
@[go_sem] theorem rowt_31 : isRowT Try.prog 31 = some true := by kernel_rfl
@[go_sem] theorem tel_31 : tel Try.prog 31 = none := by kernel_rfl
@[go_sem] theorem tby_31 : tbytes Try.prog 31 = some 16 := by kernel_rfl
@[go_sem] theorem bol_31 : isBoolT Try.prog 31 = false := by kernel_rfl
@[go_sem] theorem plc_31 : placesOf Try.prog 31 = some [(0, 1), (1, 1)] := by kernel_rfl
@[go_sem] theorem knd_31 : kindOf Try.prog 31 = none := by kernel_rfl
@[go_sem] theorem str_31 : isStringT Try.prog 31 = false := by kernel_rfl
@[go_sem] theorem byt_31 : isBytesT Try.prog 31 = false := by kernel_rfl
@[go_sem] theorem slc_31 : isSliceT Try.prog 31 = false := by kernel_rfl
@[go_sem] theorem fld_31_0 : tfld Try.prog 31 0 = some (0, 3) := by kernel_rfl
@[go_sem] theorem fld_31_1 : tfld Try.prog 31 1 = some (1, 3) := by kernel_rfl
@[go_sem] theorem zer_31 : tzero Try.prog 31 = some [.lit (.int .i64 0), .lit (.int .i64 0)] := by kernel_rfl
@[go_sem] theorem sct_31 : structT Try.prog 31 = some [(0, 3), (1, 3)] := by kernel_rfl
@[go_sem] theorem tsz_32 : tsz Try.prog 32 = some 1 := by kernel_rfl
@[go_sem] theorem rowt_32 : isRowT Try.prog 32 = some false := by kernel_rfl
@[go_sem] theorem tel_32 : tel Try.prog 32 = some 31 := by kernel_rfl
@[go_sem] theorem tby_32 : tbytes Try.prog 32 = some 24 := by kernel_rfl
@[go_sem] theorem bol_32 : isBoolT Try.prog 32 = false := by kernel_rfl
@[go_sem] theorem plc_32 : placesOf Try.prog 32 = none := by kernel_rfl
@[go_sem] theorem knd_32 : kindOf Try.prog 32 = none := by kernel_rfl
@[go_sem] theorem str_32 : isStringT Try.prog 32 = false := by kernel_rfl
@[go_sem] theorem byt_32 : isBytesT Try.prog 32 = false := by kernel_rfl
@[go_sem] theorem slc_32 : isSliceT Try.prog 32 = true := by kernel_rfl
@[go_sem] theorem zer_32 : tzero Try.prog 32 = some [.nil] := by kernel_rfl
@[go_sem] theorem tsz_33 : tsz Try.prog 33 = some 1 := by kernel_rfl
@[go_sem] theorem rowt_33 : isRowT Try.prog 33 = some false := by kernel_rfl
@[go_sem] theorem tel_33 : tel Try.prog 33 = some 3 := by kernel_rfl
@[go_sem] theorem tby_33 : tbytes Try.prog 33 = some 24 := by kernel_rfl
@[go_sem] theorem bol_33 : isBoolT Try.prog 33 = false := by kernel_rfl
@[go_sem] theorem plc_33 : placesOf Try.prog 33 = none := by kernel_rfl
@[go_sem] theorem knd_33 : kindOf Try.prog 33 = none := by kernel_rfl
@[go_sem] theorem str_33 : isStringT Try.prog 33 = false := by kernel_rfl
@[go_sem] theorem byt_33 : isBytesT Try.prog 33 = false := by kernel_rfl
@[go_sem] theorem slc_33 : isSliceT Try.prog 33 = true := by kernel_rfl
@[go_sem] theorem zer_33 : tzero Try.prog 33 = some [.nil] := by kernel_rfl
@[go_sem] theorem tsz_35 : tsz Try.prog 35 = some 6 := by kernel_rfl
@[go_sem] theorem rowt_35 : isRowT Try.prog 35 = some true := by kernel_rfl
@[go_sem] theorem tel_35 : tel Try.prog 35 = none := by kernel_rfl
@[go_sem] theorem tby_35 : tbytes Try.prog 35 = some 80 := by kernel_rfl
@[go_sem] theorem bol_35 : isBoolT Try.prog 35 = false := by kernel_rfl
@[go_sem] theorem plc_35 : placesOf Try.prog 35 = some [(0, 2), (2, 1), (3, 1), (4, 1), (5, 1)] := by kernel_rfl
@[go_sem] theorem knd_35 : kindOf Try.prog 35 = none := by kernel_rfl
@[go_sem] theorem str_35 : isStringT Try.prog 35 = false := by kernel_rfl
@[go_sem] theorem byt_35 : isBytesT Try.prog 35 = false := by kernel_rfl
@[go_sem] theorem slc_35 : isSliceT Try.prog 35 = false := by kernel_rfl
@[go_sem] theorem fld_35_0 : tfld Try.prog 35 0 = some (0, 31) := by kernel_rfl
@[go_sem] theorem fld_35_1 : tfld Try.prog 35 1 = some (2, 3) := by kernel_rfl
@[go_sem] theorem fld_35_2 : tfld Try.prog 35 2 = some (3, 32) := by kernel_rfl
@[go_sem] theorem fld_35_3 : tfld Try.prog 35 3 = some (4, 33) := by kernel_rfl
@[go_sem] theorem fld_35_4 : tfld Try.prog 35 4 = some (5, 3) := by kernel_rfl
@[go_sem] theorem zer_35 : tzero Try.prog 35 = some [.lit (.int .i64 0), .lit (.int .i64 0), .lit (.int .i64 0), .nil, .nil, .lit (.int .i64 0)] := by kernel_rfl
@[go_sem] theorem tsz_40 : tsz Try.prog 40 = some 1 := by kernel_rfl
@[go_sem] theorem rowt_40 : isRowT Try.prog 40 = some false := by kernel_rfl
@[go_sem] theorem tel_40 : tel Try.prog 40 = some 23 := by kernel_rfl
@[go_sem] theorem tby_40 : tbytes Try.prog 40 = some 24 := by kernel_rfl
@[go_sem] theorem bol_40 : isBoolT Try.prog 40 = false := by kernel_rfl
@[go_sem] theorem plc_40 : placesOf Try.prog 40 = none := by kernel_rfl
@[go_sem] theorem knd_40 : kindOf Try.prog 40 = none := by kernel_rfl
@[go_sem] theorem str_40 : isStringT Try.prog 40 = false := by kernel_rfl
@[go_sem] theorem byt_40 : isBytesT Try.prog 40 = false := by kernel_rfl
@[go_sem] theorem slc_40 : isSliceT Try.prog 40 = true := by kernel_rfl
@[go_sem] theorem zer_40 : tzero Try.prog 40 = some [.nil] := by kernel_rfl
@[go_sem] theorem tsz_42 : tsz Try.prog 42 = some 3 := by kernel_rfl
@[go_sem] theorem rowt_42 : isRowT Try.prog 42 = some true := by kernel_rfl
@[go_sem] theorem tel_42 : tel Try.prog 42 = none := by kernel_rfl
@[go_sem] theorem tby_42 : tbytes Try.prog 42 = some 32 := by kernel_rfl
@[go_sem] theorem bol_42 : isBoolT Try.prog 42 = false := by kernel_rfl
@[go_sem] theorem plc_42 : placesOf Try.prog 42 = some [(0, 1), (1, 1), (2, 1)] := by kernel_rfl
@[go_sem] theorem knd_42 : kindOf Try.prog 42 = none := by kernel_rfl
@[go_sem] theorem str_42 : isStringT Try.prog 42 = false := by kernel_rfl
@[go_sem] theorem byt_42 : isBytesT Try.prog 42 = false := by kernel_rfl
@[go_sem] theorem slc_42 : isSliceT Try.prog 42 = false := by kernel_rfl
@[go_sem] theorem fld_42_0 : tfld Try.prog 42 0 = some (0, 3) := by kernel_rfl
@[go_sem] theorem fld_42_1 : tfld Try.prog 42 1 = some (1, 3) := by kernel_rfl
@[go_sem] theorem fld_42_2 : tfld Try.prog 42 2 = some (2, 9) := by kernel_rfl
@[go_sem] theorem zer_42 : tzero Try.prog 42 = some [.lit (.int .i64 0), .lit (.int .i64 0), .lit (.string ⟨#[]⟩)] := by kernel_rfl
@[go_sem] theorem sct_42 : structT Try.prog 42 = some [(0, 3), (1, 3), (2, 9)] := by kernel_rfl
@[go_sem] theorem tsz_45 : tsz Try.prog 45 = some 1 := by kernel_rfl
@[go_sem] theorem rowt_45 : isRowT Try.prog 45 = some false := by kernel_rfl
@[go_sem] theorem tel_45 : tel Try.prog 45 = none := by kernel_rfl
@[go_sem] theorem tby_45 : tbytes Try.prog 45 = some 8 := by kernel_rfl
@[go_sem] theorem bol_45 : isBoolT Try.prog 45 = false := by kernel_rfl
@[go_sem] theorem plc_45 : placesOf Try.prog 45 = none := by kernel_rfl
@[go_sem] theorem knd_45 : kindOf Try.prog 45 = none := by kernel_rfl
@[go_sem] theorem str_45 : isStringT Try.prog 45 = false := by kernel_rfl
@[go_sem] theorem byt_45 : isBytesT Try.prog 45 = false := by kernel_rfl
@[go_sem] theorem slc_45 : isSliceT Try.prog 45 = false := by kernel_rfl
@[go_sem] theorem tsz_46 : tsz Try.prog 46 = some 1 := by kernel_rfl
@[go_sem] theorem rowt_46 : isRowT Try.prog 46 = some false := by kernel_rfl
@[go_sem] theorem tel_46 : tel Try.prog 46 = some 9 := by kernel_rfl
@[go_sem] theorem tby_46 : tbytes Try.prog 46 = some 24 := by kernel_rfl
@[go_sem] theorem bol_46 : isBoolT Try.prog 46 = false := by kernel_rfl
@[go_sem] theorem plc_46 : placesOf Try.prog 46 = none := by kernel_rfl
@[go_sem] theorem knd_46 : kindOf Try.prog 46 = none := by kernel_rfl
@[go_sem] theorem str_46 : isStringT Try.prog 46 = false := by kernel_rfl
@[go_sem] theorem byt_46 : isBytesT Try.prog 46 = false := by kernel_rfl
@[go_sem] theorem slc_46 : isSliceT Try.prog 46 = true := by kernel_rfl
@[go_sem] theorem zer_46 : tzero Try.prog 46 = some [.nil] := by kernel_rfl
@[go_sem] theorem tsz_48 : tsz Try.prog 48 = some 1 := by kernel_rfl
@[go_sem] theorem rowt_48 : isRowT Try.prog 48 = some false := by kernel_rfl
@[go_sem] theorem tel_48 : tel Try.prog 48 = some 46 := by kernel_rfl
@[go_sem] theorem tby_48 : tbytes Try.prog 48 = some 24 := by kernel_rfl
@[go_sem] theorem bol_48 : isBoolT Try.prog 48 = false := by kernel_rfl
@[go_sem] theorem plc_48 : placesOf Try.prog 48 = none := by kernel_rfl
@[go_sem] theorem knd_48 : kindOf Try.prog 48 = none := by kernel_rfl
@[go_sem] theorem str_48 : isStringT Try.prog 48 = false := by kernel_rfl
@[go_sem] theorem byt_48 : isBytesT Try.prog 48 = false := by kernel_rfl
@[go_sem] theorem slc_48 : isSliceT Try.prog 48 = true := by kernel_rfl
@[go_sem] theorem zer_48 : tzero Try.prog 48 = some [.nil] := by kernel_rfl
@[go_sem] theorem tsz_50 : tsz Try.prog 50 = some 2 := by kernel_rfl
@[go_sem] theorem rowt_50 : isRowT Try.prog 50 = some true := by kernel_rfl
@[go_sem] theorem tel_50 : tel Try.prog 50 = none := by kernel_rfl
@[go_sem] theorem tby_50 : tbytes Try.prog 50 = some 48 := by kernel_rfl
@[go_sem] theorem bol_50 : isBoolT Try.prog 50 = false := by kernel_rfl
@[go_sem] theorem plc_50 : placesOf Try.prog 50 = some [(0, 1), (1, 1)] := by kernel_rfl
@[go_sem] theorem knd_50 : kindOf Try.prog 50 = none := by kernel_rfl
@[go_sem] theorem str_50 : isStringT Try.prog 50 = false := by kernel_rfl
@[go_sem] theorem byt_50 : isBytesT Try.prog 50 = false := by kernel_rfl
@[go_sem] theorem slc_50 : isSliceT Try.prog 50 = false := by kernel_rfl
@[go_sem] theorem fld_50_0 : tfld Try.prog 50 0 = some (0, 33) := by kernel_rfl
@[go_sem] theorem fld_50_1 : tfld Try.prog 50 1 = some (1, 48) := by kernel_rfl
@[go_sem] theorem zer_50 : tzero Try.prog 50 = some [.nil, .nil] := by kernel_rfl
@[go_sem] theorem tsz_61 : tsz Try.prog 61 = some 1 := by kernel_rfl
@[go_sem] theorem rowt_61 : isRowT Try.prog 61 = some false := by kernel_rfl
@[go_sem] theorem tel_61 : tel Try.prog 61 = none := by kernel_rfl
@[go_sem] theorem tby_61 : tbytes Try.prog 61 = some 8 := by kernel_rfl
@[go_sem] theorem bol_61 : isBoolT Try.prog 61 = false := by kernel_rfl
@[go_sem] theorem plc_61 : placesOf Try.prog 61 = none := by kernel_rfl
@[go_sem] theorem knd_61 : kindOf Try.prog 61 = none := by kernel_rfl
@[go_sem] theorem str_61 : isStringT Try.prog 61 = false := by kernel_rfl
@[go_sem] theorem byt_61 : isBytesT Try.prog 61 = false := by kernel_rfl
@[go_sem] theorem slc_61 : isSliceT Try.prog 61 = false := by kernel_rfl
@[go_sem] theorem tsz_65 : tsz Try.prog 65 = some 1 := by kernel_rfl
@[go_sem] theorem rowt_65 : isRowT Try.prog 65 = some false := by kernel_rfl
@[go_sem] theorem tel_65 : tel Try.prog 65 = none := by kernel_rfl
@[go_sem] theorem tby_65 : tbytes Try.prog 65 = some 8 := by kernel_rfl
@[go_sem] theorem bol_65 : isBoolT Try.prog 65 = false := by kernel_rfl
@[go_sem] theorem plc_65 : placesOf Try.prog 65 = none := by kernel_rfl
@[go_sem] theorem knd_65 : kindOf Try.prog 65 = none := by kernel_rfl
@[go_sem] theorem str_65 : isStringT Try.prog 65 = false := by kernel_rfl
@[go_sem] theorem byt_65 : isBytesT Try.prog 65 = false := by kernel_rfl
@[go_sem] theorem slc_65 : isSliceT Try.prog 65 = false := by kernel_rfl
@[go_sem] theorem tsz_73 : tsz Try.prog 73 = some 1 := by kernel_rfl
@[go_sem] theorem rowt_73 : isRowT Try.prog 73 = some false := by kernel_rfl
@[go_sem] theorem tel_73 : tel Try.prog 73 = none := by kernel_rfl
@[go_sem] theorem tby_73 : tbytes Try.prog 73 = some 8 := by kernel_rfl
@[go_sem] theorem bol_73 : isBoolT Try.prog 73 = false := by kernel_rfl
@[go_sem] theorem plc_73 : placesOf Try.prog 73 = none := by kernel_rfl
@[go_sem] theorem knd_73 : kindOf Try.prog 73 = none := by kernel_rfl
@[go_sem] theorem str_73 : isStringT Try.prog 73 = false := by kernel_rfl
@[go_sem] theorem byt_73 : isBytesT Try.prog 73 = false := by kernel_rfl
@[go_sem] theorem slc_73 : isSliceT Try.prog 73 = false := by kernel_rfl
@[go_sem] theorem tsz_85 : tsz Try.prog 85 = some 2 := by kernel_rfl
@[go_sem] theorem rowt_85 : isRowT Try.prog 85 = some true := by kernel_rfl
@[go_sem] theorem tel_85 : tel Try.prog 85 = none := by kernel_rfl
@[go_sem] theorem tby_85 : tbytes Try.prog 85 = some 32 := by kernel_rfl
@[go_sem] theorem bol_85 : isBoolT Try.prog 85 = false := by kernel_rfl
@[go_sem] theorem plc_85 : placesOf Try.prog 85 = some [(0, 1), (1, 1)] := by kernel_rfl
@[go_sem] theorem knd_85 : kindOf Try.prog 85 = none := by kernel_rfl
@[go_sem] theorem str_85 : isStringT Try.prog 85 = false := by kernel_rfl
@[go_sem] theorem byt_85 : isBytesT Try.prog 85 = false := by kernel_rfl
@[go_sem] theorem slc_85 : isSliceT Try.prog 85 = false := by kernel_rfl
@[go_sem] theorem fld_85_0 : tfld Try.prog 85 0 = some (0, 22) := by kernel_rfl
@[go_sem] theorem fld_85_1 : tfld Try.prog 85 1 = some (1, 3) := by kernel_rfl
@[go_sem] theorem zer_85 : tzero Try.prog 85 = some [.nil, .lit (.int .i64 0)] := by kernel_rfl
@[go_sem] theorem tsz_87 : tsz Try.prog 87 = some 1 := by kernel_rfl
@[go_sem] theorem rowt_87 : isRowT Try.prog 87 = some false := by kernel_rfl
@[go_sem] theorem tel_87 : tel Try.prog 87 = none := by kernel_rfl
@[go_sem] theorem tby_87 : tbytes Try.prog 87 = some 8 := by kernel_rfl
@[go_sem] theorem bol_87 : isBoolT Try.prog 87 = false := by kernel_rfl
@[go_sem] theorem plc_87 : placesOf Try.prog 87 = none := by kernel_rfl
@[go_sem] theorem knd_87 : kindOf Try.prog 87 = none := by kernel_rfl
@[go_sem] theorem str_87 : isStringT Try.prog 87 = false := by kernel_rfl
@[go_sem] theorem byt_87 : isBytesT Try.prog 87 = false := by kernel_rfl
@[go_sem] theorem slc_87 : isSliceT Try.prog 87 = false := by kernel_rfl
@[go_sem] theorem tsz_90 : tsz Try.prog 90 = some 1 := by kernel_rfl
@[go_sem] theorem rowt_90 : isRowT Try.prog 90 = some false := by kernel_rfl
@[go_sem] theorem tel_90 : tel Try.prog 90 = none := by kernel_rfl
@[go_sem] theorem tby_90 : tbytes Try.prog 90 = some 8 := by kernel_rfl
@[go_sem] theorem bol_90 : isBoolT Try.prog 90 = false := by kernel_rfl
@[go_sem] theorem plc_90 : placesOf Try.prog 90 = none := by kernel_rfl
@[go_sem] theorem knd_90 : kindOf Try.prog 90 = none := by kernel_rfl
@[go_sem] theorem str_90 : isStringT Try.prog 90 = false := by kernel_rfl
@[go_sem] theorem byt_90 : isBytesT Try.prog 90 = false := by kernel_rfl
@[go_sem] theorem slc_90 : isSliceT Try.prog 90 = false := by kernel_rfl
@[go_sem] theorem tsz_92 : tsz Try.prog 92 = some 6 := by kernel_rfl
@[go_sem] theorem rowt_92 : isRowT Try.prog 92 = some true := by kernel_rfl
@[go_sem] theorem tel_92 : tel Try.prog 92 = none := by kernel_rfl
@[go_sem] theorem tby_92 : tbytes Try.prog 92 = some 80 := by kernel_rfl
@[go_sem] theorem bol_92 : isBoolT Try.prog 92 = false := by kernel_rfl
@[go_sem] theorem plc_92 : placesOf Try.prog 92 = some [(0, 2), (2, 1), (3, 1), (4, 1), (5, 1)] := by kernel_rfl
@[go_sem] theorem knd_92 : kindOf Try.prog 92 = none := by kernel_rfl
@[go_sem] theorem str_92 : isStringT Try.prog 92 = false := by kernel_rfl
@[go_sem] theorem byt_92 : isBytesT Try.prog 92 = false := by kernel_rfl
@[go_sem] theorem slc_92 : isSliceT Try.prog 92 = false := by kernel_rfl
@[go_sem] theorem fld_92_0 : tfld Try.prog 92 0 = some (0, 31) := by kernel_rfl
@[go_sem] theorem fld_92_1 : tfld Try.prog 92 1 = some (2, 3) := by kernel_rfl
@[go_sem] theorem fld_92_2 : tfld Try.prog 92 2 = some (3, 32) := by kernel_rfl
@[go_sem] theorem fld_92_3 : tfld Try.prog 92 3 = some (4, 33) := by kernel_rfl
@[go_sem] theorem fld_92_4 : tfld Try.prog 92 4 = some (5, 3) := by kernel_rfl
@[go_sem] theorem zer_92 : tzero Try.prog 92 = some [.lit (.int .i64 0), .lit (.int .i64 0), .lit (.int .i64 0), .nil, .nil, .lit (.int .i64 0)] := by kernel_rfl
@[go_sem] theorem tsz_116 : tsz Try.prog 116 = some 1 := by kernel_rfl
@[go_sem] theorem rowt_116 : isRowT Try.prog 116 = some false := by kernel_rfl
@[go_sem] theorem tel_116 : tel Try.prog 116 = none := by kernel_rfl
@[go_sem] theorem tby_116 : tbytes Try.prog 116 = some 8 := by kernel_rfl
@[go_sem] theorem bol_116 : isBoolT Try.prog 116 = false := by kernel_rfl
@[go_sem] theorem plc_116 : placesOf Try.prog 116 = none := by kernel_rfl
@[go_sem] theorem knd_116 : kindOf Try.prog 116 = some IntKind.u64 := by kernel_rfl
@[go_sem] theorem str_116 : isStringT Try.prog 116 = false := by kernel_rfl
@[go_sem] theorem byt_116 : isBytesT Try.prog 116 = false := by kernel_rfl
@[go_sem] theorem slc_116 : isSliceT Try.prog 116 = false := by kernel_rfl
@[go_sem] theorem zer_116 : tzero Try.prog 116 = some [.lit (.int .u64 0)] := by kernel_rfl
@[go_sem] theorem tsz_135 : tsz Try.prog 135 = some 1 := by kernel_rfl
@[go_sem] theorem rowt_135 : isRowT Try.prog 135 = some false := by kernel_rfl
@[go_sem] theorem tel_135 : tel Try.prog 135 = none := by kernel_rfl
@[go_sem] theorem tby_135 : tbytes Try.prog 135 = some 8 := by kernel_rfl
@[go_sem] theorem bol_135 : isBoolT Try.prog 135 = false := by kernel_rfl
@[go_sem] theorem plc_135 : placesOf Try.prog 135 = none := by kernel_rfl
@[go_sem] theorem knd_135 : kindOf Try.prog 135 = some IntKind.u64 := by kernel_rfl
@[go_sem] theorem str_135 : isStringT Try.prog 135 = false := by kernel_rfl
@[go_sem] theorem byt_135 : isBytesT Try.prog 135 = false := by kernel_rfl
@[go_sem] theorem slc_135 : isSliceT Try.prog 135 = false := by kernel_rfl
@[go_sem] theorem zer_135 : tzero Try.prog 135 = some [.lit (.int .u64 0)] := by kernel_rfl
theorem hf2 : Try.prog.funcs[2]? = some Try.f2 := by kernel_rfl
theorem he2 : enters Try.prog 2 = true := by kernel_rfl
theorem hf3 : Try.prog.funcs[3]? = some Try.f3 := by kernel_rfl
theorem he3 : enters Try.prog 3 = true := by kernel_rfl
theorem hf4 : Try.prog.funcs[4]? = some Try.f4 := by kernel_rfl
theorem he4 : enters Try.prog 4 = true := by kernel_rfl
theorem hf5 : Try.prog.funcs[5]? = some Try.f5 := by kernel_rfl
theorem he5 : enters Try.prog 5 = true := by kernel_rfl
theorem hf6 : Try.prog.funcs[6]? = some Try.f6 := by kernel_rfl
theorem he6 : enters Try.prog 6 = true := by kernel_rfl
theorem hf7 : Try.prog.funcs[7]? = some Try.f7 := by kernel_rfl
theorem he7 : enters Try.prog 7 = true := by kernel_rfl
theorem hf8 : Try.prog.funcs[8]? = some Try.f8 := by kernel_rfl
theorem he8 : enters Try.prog 8 = true := by kernel_rfl
theorem hf9 : Try.prog.funcs[9]? = some Try.f9 := by kernel_rfl
theorem he9 : enters Try.prog 9 = true := by kernel_rfl
theorem hf10 : Try.prog.funcs[10]? = some Try.f10 := by kernel_rfl
theorem he10 : enters Try.prog 10 = true := by kernel_rfl
theorem hf11 : Try.prog.funcs[11]? = some Try.f11 := by kernel_rfl
theorem he11 : enters Try.prog 11 = true := by kernel_rfl
theorem hf12 : Try.prog.funcs[12]? = some Try.f12 := by kernel_rfl
theorem he12 : enters Try.prog 12 = true := by kernel_rfl
theorem hf13 : Try.prog.funcs[13]? = some Try.f13 := by kernel_rfl
theorem he13 : enters Try.prog 13 = true := by kernel_rfl
theorem hf14 : Try.prog.funcs[14]? = some Try.f14 := by kernel_rfl
theorem he14 : enters Try.prog 14 = true := by kernel_rfl
theorem hf15 : Try.prog.funcs[15]? = some Try.f15 := by kernel_rfl
theorem he15 : enters Try.prog 15 = true := by kernel_rfl
theorem hf16 : Try.prog.funcs[16]? = some Try.f16 := by kernel_rfl
theorem he16 : enters Try.prog 16 = true := by kernel_rfl
theorem hf17 : Try.prog.funcs[17]? = some Try.f17 := by kernel_rfl
theorem he17 : enters Try.prog 17 = true := by kernel_rfl
theorem hf18 : Try.prog.funcs[18]? = some Try.f18 := by kernel_rfl
theorem he18 : enters Try.prog 18 = true := by kernel_rfl
theorem hf19 : Try.prog.funcs[19]? = some Try.f19 := by kernel_rfl
theorem he19 : enters Try.prog 19 = true := by kernel_rfl
theorem hf20 : Try.prog.funcs[20]? = some Try.f20 := by kernel_rfl
theorem he20 : enters Try.prog 20 = true := by kernel_rfl
theorem hf21 : Try.prog.funcs[21]? = some Try.f21 := by kernel_rfl
theorem he21 : enters Try.prog 21 = true := by kernel_rfl
theorem hf22 : Try.prog.funcs[22]? = some Try.f22 := by kernel_rfl
theorem he22 : enters Try.prog 22 = true := by kernel_rfl
theorem hf23 : Try.prog.funcs[23]? = some Try.f23 := by kernel_rfl
theorem he23 : enters Try.prog 23 = true := by kernel_rfl
theorem hf24 : Try.prog.funcs[24]? = some Try.f24 := by kernel_rfl
theorem he24 : enters Try.prog 24 = true := by kernel_rfl
theorem hf25 : Try.prog.funcs[25]? = some Try.f25 := by kernel_rfl
theorem he25 : enters Try.prog 25 = true := by kernel_rfl
theorem hf26 : Try.prog.funcs[26]? = some Try.f26 := by kernel_rfl
theorem he26 : enters Try.prog 26 = true := by kernel_rfl
theorem hf27 : Try.prog.funcs[27]? = some Try.f27 := by kernel_rfl
theorem he27 : enters Try.prog 27 = true := by kernel_rfl
theorem hf28 : Try.prog.funcs[28]? = some Try.f28 := by kernel_rfl
theorem he28 : enters Try.prog 28 = true := by kernel_rfl
theorem hf29 : Try.prog.funcs[29]? = some Try.f29 := by kernel_rfl
theorem he29 : enters Try.prog 29 = true := by kernel_rfl
theorem hf30 : Try.prog.funcs[30]? = some Try.f30 := by kernel_rfl
theorem he30 : enters Try.prog 30 = true := by kernel_rfl
theorem hf31 : Try.prog.funcs[31]? = some Try.f31 := by kernel_rfl
theorem he31 : enters Try.prog 31 = true := by kernel_rfl
theorem hf32 : Try.prog.funcs[32]? = some Try.f32 := by kernel_rfl
theorem he32 : enters Try.prog 32 = true := by kernel_rfl
theorem hf33 : Try.prog.funcs[33]? = some Try.f33 := by kernel_rfl
theorem he33 : enters Try.prog 33 = true := by kernel_rfl
theorem hf34 : Try.prog.funcs[34]? = some Try.f34 := by kernel_rfl
theorem he34 : enters Try.prog 34 = true := by kernel_rfl
theorem hf35 : Try.prog.funcs[35]? = some Try.f35 := by kernel_rfl
theorem he35 : enters Try.prog 35 = true := by kernel_rfl
theorem hf36 : Try.prog.funcs[36]? = some Try.f36 := by kernel_rfl
theorem he36 : enters Try.prog 36 = true := by kernel_rfl
theorem hf37 : Try.prog.funcs[37]? = some Try.f37 := by kernel_rfl
theorem he37 : enters Try.prog 37 = true := by kernel_rfl
theorem hf38 : Try.prog.funcs[38]? = some Try.f38 := by kernel_rfl
theorem he38 : enters Try.prog 38 = true := by kernel_rfl
theorem hf39 : Try.prog.funcs[39]? = some Try.f39 := by kernel_rfl
theorem he39 : enters Try.prog 39 = true := by kernel_rfl
theorem hf40 : Try.prog.funcs[40]? = some Try.f40 := by kernel_rfl
theorem he40 : enters Try.prog 40 = true := by kernel_rfl
theorem hf41 : Try.prog.funcs[41]? = some Try.f41 := by kernel_rfl
theorem he41 : enters Try.prog 41 = true := by kernel_rfl
theorem hf42 : Try.prog.funcs[42]? = some Try.f42 := by kernel_rfl
theorem he42 : enters Try.prog 42 = true := by kernel_rfl
theorem hf43 : Try.prog.funcs[43]? = some Try.f43 := by kernel_rfl
theorem he43 : enters Try.prog 43 = true := by kernel_rfl
theorem hf44 : Try.prog.funcs[44]? = some Try.f44 := by kernel_rfl
theorem he44 : enters Try.prog 44 = true := by kernel_rfl
theorem hf45 : Try.prog.funcs[45]? = some Try.f45 := by kernel_rfl
theorem he45 : enters Try.prog 45 = true := by kernel_rfl
theorem hf46 : Try.prog.funcs[46]? = some Try.f46 := by kernel_rfl
theorem he46 : enters Try.prog 46 = true := by kernel_rfl
theorem hf47 : Try.prog.funcs[47]? = some Try.f47 := by kernel_rfl
theorem he47 : enters Try.prog 47 = true := by kernel_rfl
theorem hf48 : Try.prog.funcs[48]? = some Try.f48 := by kernel_rfl
theorem he48 : enters Try.prog 48 = true := by kernel_rfl
theorem hf49 : Try.prog.funcs[49]? = some Try.f49 := by kernel_rfl
theorem he49 : enters Try.prog 49 = true := by kernel_rfl
theorem hf50 : Try.prog.funcs[50]? = some Try.f50 := by kernel_rfl
theorem he50 : enters Try.prog 50 = true := by kernel_rfl
theorem hf51 : Try.prog.funcs[51]? = some Try.f51 := by kernel_rfl
theorem he51 : enters Try.prog 51 = true := by kernel_rfl
theorem hf52 : Try.prog.funcs[52]? = some Try.f52 := by kernel_rfl
theorem he52 : enters Try.prog 52 = true := by kernel_rfl
theorem hf53 : Try.prog.funcs[53]? = some Try.f53 := by kernel_rfl
theorem he53 : enters Try.prog 53 = true := by kernel_rfl
theorem hf54 : Try.prog.funcs[54]? = some Try.f54 := by kernel_rfl
theorem he54 : enters Try.prog 54 = true := by kernel_rfl
theorem hf55 : Try.prog.funcs[55]? = some Try.f55 := by kernel_rfl
theorem he55 : enters Try.prog 55 = true := by kernel_rfl
theorem hf56 : Try.prog.funcs[56]? = some Try.f56 := by kernel_rfl
theorem he56 : enters Try.prog 56 = true := by kernel_rfl
theorem hf57 : Try.prog.funcs[57]? = some Try.f57 := by kernel_rfl
theorem he57 : enters Try.prog 57 = true := by kernel_rfl
theorem hf58 : Try.prog.funcs[58]? = some Try.f58 := by kernel_rfl
theorem he58 : enters Try.prog 58 = true := by kernel_rfl
theorem hf59 : Try.prog.funcs[59]? = some Try.f59 := by kernel_rfl
theorem he59 : enters Try.prog 59 = true := by kernel_rfl
theorem hf60 : Try.prog.funcs[60]? = some Try.f60 := by kernel_rfl
theorem he60 : enters Try.prog 60 = true := by kernel_rfl
theorem hf61 : Try.prog.funcs[61]? = some Try.f61 := by kernel_rfl
theorem he61 : enters Try.prog 61 = true := by kernel_rfl
theorem hf62 : Try.prog.funcs[62]? = some Try.f62 := by kernel_rfl
theorem he62 : enters Try.prog 62 = true := by kernel_rfl
theorem hf63 : Try.prog.funcs[63]? = some Try.f63 := by kernel_rfl
theorem he63 : enters Try.prog 63 = true := by kernel_rfl
theorem hf64 : Try.prog.funcs[64]? = some Try.f64 := by kernel_rfl
theorem he64 : enters Try.prog 64 = true := by kernel_rfl
theorem hf65 : Try.prog.funcs[65]? = some Try.f65 := by kernel_rfl
theorem he65 : enters Try.prog 65 = true := by kernel_rfl
theorem hf66 : Try.prog.funcs[66]? = some Try.f66 := by kernel_rfl
theorem he66 : enters Try.prog 66 = true := by kernel_rfl
theorem hf67 : Try.prog.funcs[67]? = some Try.f67 := by kernel_rfl
theorem he67 : enters Try.prog 67 = true := by kernel_rfl
theorem hf68 : Try.prog.funcs[68]? = some Try.f68 := by kernel_rfl
theorem he68 : enters Try.prog 68 = true := by kernel_rfl
theorem hf69 : Try.prog.funcs[69]? = some Try.f69 := by kernel_rfl
theorem he69 : enters Try.prog 69 = true := by kernel_rfl
theorem hf70 : Try.prog.funcs[70]? = some Try.f70 := by kernel_rfl
theorem he70 : enters Try.prog 70 = true := by kernel_rfl
theorem hf71 : Try.prog.funcs[71]? = some Try.f71 := by kernel_rfl
theorem he71 : enters Try.prog 71 = true := by kernel_rfl
theorem hf72 : Try.prog.funcs[72]? = some Try.f72 := by kernel_rfl
theorem he72 : enters Try.prog 72 = true := by kernel_rfl
theorem hf73 : Try.prog.funcs[73]? = some Try.f73 := by kernel_rfl
theorem he73 : enters Try.prog 73 = true := by kernel_rfl
theorem hf74 : Try.prog.funcs[74]? = some Try.f74 := by kernel_rfl
theorem he74 : enters Try.prog 74 = true := by kernel_rfl
theorem hf75 : Try.prog.funcs[75]? = some Try.f75 := by kernel_rfl
theorem he75 : enters Try.prog 75 = true := by kernel_rfl
theorem hf76 : Try.prog.funcs[76]? = some Try.f76 := by kernel_rfl
theorem he76 : enters Try.prog 76 = true := by kernel_rfl
theorem hf77 : Try.prog.funcs[77]? = some Try.f77 := by kernel_rfl
theorem he77 : enters Try.prog 77 = true := by kernel_rfl
theorem hf78 : Try.prog.funcs[78]? = some Try.f78 := by kernel_rfl
theorem he78 : enters Try.prog 78 = true := by kernel_rfl
theorem hf79 : Try.prog.funcs[79]? = some Try.f79 := by kernel_rfl
theorem he79 : enters Try.prog 79 = true := by kernel_rfl
theorem hf80 : Try.prog.funcs[80]? = some Try.f80 := by kernel_rfl
theorem he80 : enters Try.prog 80 = true := by kernel_rfl
theorem hf81 : Try.prog.funcs[81]? = some Try.f81 := by kernel_rfl
theorem he81 : enters Try.prog 81 = true := by kernel_rfl
theorem hf82 : Try.prog.funcs[82]? = some Try.f82 := by kernel_rfl
theorem he82 : enters Try.prog 82 = true := by kernel_rfl
theorem hf83 : Try.prog.funcs[83]? = some Try.f83 := by kernel_rfl
theorem he83 : enters Try.prog 83 = true := by kernel_rfl
theorem hf84 : Try.prog.funcs[84]? = some Try.f84 := by kernel_rfl
theorem he84 : enters Try.prog 84 = true := by kernel_rfl
theorem hf85 : Try.prog.funcs[85]? = some Try.f85 := by kernel_rfl
theorem he85 : enters Try.prog 85 = true := by kernel_rfl
theorem hf86 : Try.prog.funcs[86]? = some Try.f86 := by kernel_rfl
theorem he86 : enters Try.prog 86 = true := by kernel_rfl
theorem hf87 : Try.prog.funcs[87]? = some Try.f87 := by kernel_rfl
theorem he87 : enters Try.prog 87 = true := by kernel_rfl
theorem hf88 : Try.prog.funcs[88]? = some Try.f88 := by kernel_rfl
theorem he88 : enters Try.prog 88 = true := by kernel_rfl
theorem hf89 : Try.prog.funcs[89]? = some Try.f89 := by kernel_rfl
theorem he89 : enters Try.prog 89 = true := by kernel_rfl
theorem hf90 : Try.prog.funcs[90]? = some Try.f90 := by kernel_rfl
theorem he90 : enters Try.prog 90 = true := by kernel_rfl
theorem hf91 : Try.prog.funcs[91]? = some Try.f91 := by kernel_rfl
theorem he91 : enters Try.prog 91 = true := by kernel_rfl
theorem hf92 : Try.prog.funcs[92]? = some Try.f92 := by kernel_rfl
theorem he92 : enters Try.prog 92 = true := by kernel_rfl
theorem hf93 : Try.prog.funcs[93]? = some Try.f93 := by kernel_rfl
theorem he93 : enters Try.prog 93 = true := by kernel_rfl
theorem hf94 : Try.prog.funcs[94]? = some Try.f94 := by kernel_rfl
theorem he94 : enters Try.prog 94 = true := by kernel_rfl
theorem hf95 : Try.prog.funcs[95]? = some Try.f95 := by kernel_rfl
theorem he95 : enters Try.prog 95 = true := by kernel_rfl
theorem hf96 : Try.prog.funcs[96]? = some Try.f96 := by kernel_rfl
theorem he96 : enters Try.prog 96 = true := by kernel_rfl
theorem hf97 : Try.prog.funcs[97]? = some Try.f97 := by kernel_rfl
theorem he97 : enters Try.prog 97 = true := by kernel_rfl
theorem hf98 : Try.prog.funcs[98]? = some Try.f98 := by kernel_rfl
theorem he98 : enters Try.prog 98 = true := by kernel_rfl
theorem hf99 : Try.prog.funcs[99]? = some Try.f99 := by kernel_rfl
theorem he99 : enters Try.prog 99 = true := by kernel_rfl
theorem hf100 : Try.prog.funcs[100]? = some Try.f100 := by kernel_rfl
theorem he100 : enters Try.prog 100 = true := by kernel_rfl
theorem hf101 : Try.prog.funcs[101]? = some Try.f101 := by kernel_rfl
theorem he101 : enters Try.prog 101 = true := by kernel_rfl
theorem hf102 : Try.prog.funcs[102]? = some Try.f102 := by kernel_rfl
theorem he102 : enters Try.prog 102 = true := by kernel_rfl
theorem hf103 : Try.prog.funcs[103]? = some Try.f103 := by kernel_rfl
theorem he103 : enters Try.prog 103 = true := by kernel_rfl
theorem hf104 : Try.prog.funcs[104]? = some Try.f104 := by kernel_rfl
theorem he104 : enters Try.prog 104 = true := by kernel_rfl
theorem hf105 : Try.prog.funcs[105]? = some Try.f105 := by kernel_rfl
theorem he105 : enters Try.prog 105 = true := by kernel_rfl
theorem hf106 : Try.prog.funcs[106]? = some Try.f106 := by kernel_rfl
theorem he106 : enters Try.prog 106 = true := by kernel_rfl
theorem hf107 : Try.prog.funcs[107]? = some Try.f107 := by kernel_rfl
theorem he107 : enters Try.prog 107 = true := by kernel_rfl
theorem hf108 : Try.prog.funcs[108]? = some Try.f108 := by kernel_rfl
theorem he108 : enters Try.prog 108 = true := by kernel_rfl
theorem hf109 : Try.prog.funcs[109]? = some Try.f109 := by kernel_rfl
theorem he109 : enters Try.prog 109 = true := by kernel_rfl
theorem hf110 : Try.prog.funcs[110]? = some Try.f110 := by kernel_rfl
theorem he110 : enters Try.prog 110 = true := by kernel_rfl
theorem hf111 : Try.prog.funcs[111]? = some Try.f111 := by kernel_rfl
theorem he111 : enters Try.prog 111 = true := by kernel_rfl
theorem hf112 : Try.prog.funcs[112]? = some Try.f112 := by kernel_rfl
theorem he112 : enters Try.prog 112 = true := by kernel_rfl
theorem hf113 : Try.prog.funcs[113]? = some Try.f113 := by kernel_rfl
theorem he113 : enters Try.prog 113 = true := by kernel_rfl
theorem hf114 : Try.prog.funcs[114]? = some Try.f114 := by kernel_rfl
theorem he114 : enters Try.prog 114 = true := by kernel_rfl
theorem hf115 : Try.prog.funcs[115]? = some Try.f115 := by kernel_rfl
theorem he115 : enters Try.prog 115 = true := by kernel_rfl
theorem hf116 : Try.prog.funcs[116]? = some Try.f116 := by kernel_rfl
theorem he116 : enters Try.prog 116 = true := by kernel_rfl
theorem hf117 : Try.prog.funcs[117]? = some Try.f117 := by kernel_rfl
theorem he117 : enters Try.prog 117 = true := by kernel_rfl
theorem hf118 : Try.prog.funcs[118]? = some Try.f118 := by kernel_rfl
theorem he118 : enters Try.prog 118 = true := by kernel_rfl
theorem hf119 : Try.prog.funcs[119]? = some Try.f119 := by kernel_rfl
theorem he119 : enters Try.prog 119 = true := by kernel_rfl
theorem hf120 : Try.prog.funcs[120]? = some Try.f120 := by kernel_rfl
theorem he120 : enters Try.prog 120 = true := by kernel_rfl
theorem hf121 : Try.prog.funcs[121]? = some Try.f121 := by kernel_rfl
theorem he121 : enters Try.prog 121 = true := by kernel_rfl
theorem hf122 : Try.prog.funcs[122]? = some Try.f122 := by kernel_rfl
theorem he122 : enters Try.prog 122 = true := by kernel_rfl
theorem hf123 : Try.prog.funcs[123]? = some Try.f123 := by kernel_rfl
theorem he123 : enters Try.prog 123 = true := by kernel_rfl
theorem hf124 : Try.prog.funcs[124]? = some Try.f124 := by kernel_rfl
theorem he124 : enters Try.prog 124 = true := by kernel_rfl
theorem hf125 : Try.prog.funcs[125]? = some Try.f125 := by kernel_rfl
theorem he125 : enters Try.prog 125 = true := by kernel_rfl
theorem hf126 : Try.prog.funcs[126]? = some Try.f126 := by kernel_rfl
theorem he126 : enters Try.prog 126 = true := by kernel_rfl
theorem hf127 : Try.prog.funcs[127]? = some Try.f127 := by kernel_rfl
theorem he127 : enters Try.prog 127 = true := by kernel_rfl
theorem hf128 : Try.prog.funcs[128]? = some Try.f128 := by kernel_rfl
theorem he128 : enters Try.prog 128 = true := by kernel_rfl
theorem hf129 : Try.prog.funcs[129]? = some Try.f129 := by kernel_rfl
theorem he129 : enters Try.prog 129 = true := by kernel_rfl
theorem hf130 : Try.prog.funcs[130]? = some Try.f130 := by kernel_rfl
theorem he130 : enters Try.prog 130 = true := by kernel_rfl
theorem hf131 : Try.prog.funcs[131]? = some Try.f131 := by kernel_rfl
theorem he131 : enters Try.prog 131 = true := by kernel_rfl
theorem hf132 : Try.prog.funcs[132]? = some Try.f132 := by kernel_rfl
theorem he132 : enters Try.prog 132 = true := by kernel_rfl
theorem hf133 : Try.prog.funcs[133]? = some Try.f133 := by kernel_rfl
theorem he133 : enters Try.prog 133 = true := by kernel_rfl
theorem hf134 : Try.prog.funcs[134]? = some Try.f134 := by kernel_rfl
theorem he134 : enters Try.prog 134 = true := by kernel_rfl
theorem hf135 : Try.prog.funcs[135]? = some Try.f135 := by kernel_rfl
theorem he135 : enters Try.prog 135 = true := by kernel_rfl
theorem hf136 : Try.prog.funcs[136]? = some Try.f136 := by kernel_rfl
theorem he136 : enters Try.prog 136 = true := by kernel_rfl
theorem hf137 : Try.prog.funcs[137]? = some Try.f137 := by kernel_rfl
theorem he137 : enters Try.prog 137 = true := by kernel_rfl
theorem hf138 : Try.prog.funcs[138]? = some Try.f138 := by kernel_rfl
theorem he138 : enters Try.prog 138 = true := by kernel_rfl
theorem hf139 : Try.prog.funcs[139]? = some Try.f139 := by kernel_rfl
theorem he139 : enters Try.prog 139 = true := by kernel_rfl
theorem hf140 : Try.prog.funcs[140]? = some Try.f140 := by kernel_rfl
theorem he140 : enters Try.prog 140 = true := by kernel_rfl
end Go.Proofs.Ytlphbpjejdhaoaa
