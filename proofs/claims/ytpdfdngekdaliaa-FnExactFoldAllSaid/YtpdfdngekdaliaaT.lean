/- The tables of the program, read: types and functions. No condition. -/
import Derived.Test.YtpdfdngekdaliaaProg
import Derived.Test.YtpdfdngekdaliaaAi3
import Derived.KernelRfl
open Go Go.AI Go.Proofs
set_option maxRecDepth 100000
namespace Go.Proofs.Ytpdfdngekdaliaa
@[go_sem] theorem tsz_3 : tsz Try.prog 3 = some 1 := by kernel_rfl
@[go_sem] theorem rowt_3 : isRowT Try.prog 3 = some false := by kernel_rfl
@[go_sem] theorem tel_3 : tel Try.prog 3 = none := by kernel_rfl
@[go_sem] theorem tby_3 : tbytes Try.prog 3 = some 8 := by kernel_rfl
@[go_sem] theorem bol_3 : isBoolT Try.prog 3 = false := by kernel_rfl
@[go_sem] theorem plc_3 : placesOf Try.prog 3 = none := by kernel_rfl
@[go_sem] theorem knd_3 : kindOf Try.prog 3 = some IntKind.i64 := by kernel_rfl
@[go_sem] theorem str_3 : isStringT Try.prog 3 = false := by kernel_rfl
@[go_sem] theorem byt_3 : isBytesT Try.prog 3 = false := by kernel_rfl
@[go_sem] theorem slc_3 : isSliceT Try.prog 3 = false := by kernel_rfl
@[go_sem] theorem zer_3 : tzero Try.prog 3 = some [.lit (.int .i64 0)] := by kernel_rfl
@[go_sem] theorem tsz_4 : tsz Try.prog 4 = some 1 := by kernel_rfl
@[go_sem] theorem rowt_4 : isRowT Try.prog 4 = some false := by kernel_rfl
@[go_sem] theorem tel_4 : tel Try.prog 4 = none := by kernel_rfl
@[go_sem] theorem tby_4 : tbytes Try.prog 4 = some 1 := by kernel_rfl
@[go_sem] theorem bol_4 : isBoolT Try.prog 4 = true := by kernel_rfl
@[go_sem] theorem plc_4 : placesOf Try.prog 4 = none := by kernel_rfl
@[go_sem] theorem knd_4 : kindOf Try.prog 4 = none := by kernel_rfl
@[go_sem] theorem str_4 : isStringT Try.prog 4 = false := by kernel_rfl
@[go_sem] theorem byt_4 : isBytesT Try.prog 4 = false := by kernel_rfl
@[go_sem] theorem slc_4 : isSliceT Try.prog 4 = false := by kernel_rfl
@[go_sem] theorem zer_4 : tzero Try.prog 4 = some [.lit (.bool false)] := by kernel_rfl
@[go_sem] theorem tsz_5 : tsz Try.prog 5 = some 1 := by kernel_rfl
@[go_sem] theorem rowt_5 : isRowT Try.prog 5 = some false := by kernel_rfl
@[go_sem] theorem tel_5 : tel Try.prog 5 = none := by kernel_rfl
@[go_sem] theorem tby_5 : tbytes Try.prog 5 = some 1 := by kernel_rfl
@[go_sem] theorem bol_5 : isBoolT Try.prog 5 = false := by kernel_rfl
@[go_sem] theorem plc_5 : placesOf Try.prog 5 = none := by kernel_rfl
@[go_sem] theorem knd_5 : kindOf Try.prog 5 = some IntKind.u8 := by kernel_rfl
@[go_sem] theorem str_5 : isStringT Try.prog 5 = false := by kernel_rfl
@[go_sem] theorem byt_5 : isBytesT Try.prog 5 = false := by kernel_rfl
@[go_sem] theorem slc_5 : isSliceT Try.prog 5 = false := by kernel_rfl
@[go_sem] theorem zer_5 : tzero Try.prog 5 = some [.lit (.int .u8 0)] := by kernel_rfl
@[go_sem] theorem tsz_9 : tsz Try.prog 9 = some 1 := by kernel_rfl
@[go_sem] theorem rowt_9 : isRowT Try.prog 9 = some false := by kernel_rfl
@[go_sem] theorem tel_9 : tel Try.prog 9 = none := by kernel_rfl
@[go_sem] theorem tby_9 : tbytes Try.prog 9 = some 16 := by kernel_rfl
@[go_sem] theorem bol_9 : isBoolT Try.prog 9 = false := by kernel_rfl
@[go_sem] theorem plc_9 : placesOf Try.prog 9 = none := by kernel_rfl
@[go_sem] theorem knd_9 : kindOf Try.prog 9 = none := by kernel_rfl
@[go_sem] theorem str_9 : isStringT Try.prog 9 = true := by kernel_rfl
@[go_sem] theorem byt_9 : isBytesT Try.prog 9 = false := by kernel_rfl
@[go_sem] theorem slc_9 : isSliceT Try.prog 9 = false := by kernel_rfl
@[go_sem] theorem zer_9 : tzero Try.prog 9 = some [.lit (.string ⟨#[]⟩)] := by kernel_rfl
@[go_sem] theorem und_9 : Try.prog.underlying 9 = some .string := by kernel_rfl
@[go_sem] theorem tsz_22 : tsz Try.prog 22 = some 1 := by kernel_rfl
@[go_sem] theorem rowt_22 : isRowT Try.prog 22 = some false := by kernel_rfl
@[go_sem] theorem tel_22 : tel Try.prog 22 = some 33 := by kernel_rfl
@[go_sem] theorem tby_22 : tbytes Try.prog 22 = some 24 := by kernel_rfl
@[go_sem] theorem bol_22 : isBoolT Try.prog 22 = false := by kernel_rfl
@[go_sem] theorem plc_22 : placesOf Try.prog 22 = none := by kernel_rfl
@[go_sem] theorem knd_22 : kindOf Try.prog 22 = none := by kernel_rfl
@[go_sem] theorem str_22 : isStringT Try.prog 22 = false := by kernel_rfl
@[go_sem] theorem byt_22 : isBytesT Try.prog 22 = false := by kernel_rfl
@[go_sem] theorem slc_22 : isSliceT Try.prog 22 = true := by kernel_rfl
@[go_sem] theorem zer_22 : tzero Try.prog 22 = some [.nil] := by kernel_rfl
@[go_sem] theorem tsz_24 : tsz Try.prog 24 = some 1 := by kernel_rfl
@[go_sem] theorem rowt_24 : isRowT Try.prog 24 = some false := by kernel_rfl
@[go_sem] theorem tel_24 : tel Try.prog 24 = some 39 := by kernel_rfl
@[go_sem] theorem tby_24 : tbytes Try.prog 24 = some 24 := by kernel_rfl
@[go_sem] theorem bol_24 : isBoolT Try.prog 24 = false := by kernel_rfl
@[go_sem] theorem plc_24 : placesOf Try.prog 24 = none := by kernel_rfl
@[go_sem] theorem knd_24 : kindOf Try.prog 24 = none := by kernel_rfl
@[go_sem] theorem str_24 : isStringT Try.prog 24 = false := by kernel_rfl
@[go_sem] theorem byt_24 : isBytesT Try.prog 24 = false := by kernel_rfl
@[go_sem] theorem slc_24 : isSliceT Try.prog 24 = true := by kernel_rfl
@[go_sem] theorem zer_24 : tzero Try.prog 24 = some [.nil] := by kernel_rfl
@[go_sem] theorem tsz_31 : tsz Try.prog 31 = some 1 := by kernel_rfl
@[go_sem] theorem rowt_31 : isRowT Try.prog 31 = some false := by kernel_rfl
@[go_sem] theorem tel_31 : tel Try.prog 31 = some 59 := by kernel_rfl
@[go_sem] theorem tby_31 : tbytes Try.prog 31 = some 24 := by kernel_rfl
@[go_sem] theorem bol_31 : isBoolT Try.prog 31 = false := by kernel_rfl
@[go_sem] theorem plc_31 : placesOf Try.prog 31 = none := by kernel_rfl
@[go_sem] theorem knd_31 : kindOf Try.prog 31 = none := by kernel_rfl
@[go_sem] theorem str_31 : isStringT Try.prog 31 = false := by kernel_rfl
@[go_sem] theorem byt_31 : isBytesT Try.prog 31 = false := by kernel_rfl
@[go_sem] theorem slc_31 : isSliceT Try.prog 31 = true := by kernel_rfl
@[go_sem] theorem zer_31 : tzero Try.prog 31 = some [.nil] := by kernel_rfl
@[go_sem] theorem tsz_33 : tsz Try.prog 33 = some 3 := by kernel_rfl
@[go_sem] theorem rowt_33 : isRowT Try.prog 33 = some true := by kernel_rfl
@[go_sem] theorem tel_33 : tel Try.prog 33 = none := by kernel_rfl
@[go_sem] theorem tby_33 : tbytes Try.prog 33 = some 48 := by kernel_rfl
@[go_sem] theorem bol_33 : isBoolT Try.prog 33 = false := by kernel_rfl
@[go_sem] theorem plc_33 : placesOf Try.prog 33 = some [(0, 1), (1, 1), (2, 1)] := by kernel_rfl
@[go_sem] theorem knd_33 : kindOf Try.prog 33 = none := by kernel_rfl
@[go_sem] theorem str_33 : isStringT Try.prog 33 = false := by kernel_rfl
@[go_sem] theorem byt_33 : isBytesT Try.prog 33 = false := by kernel_rfl
@[go_sem] theorem slc_33 : isSliceT Try.prog 33 = false := by kernel_rfl
@[go_sem] theorem fld_33_0 : tfld Try.prog 33 0 = some (0, 9) := by kernel_rfl
@[go_sem] theorem fld_33_1 : tfld Try.prog 33 1 = some (1, 4) := by kernel_rfl
@[go_sem] theorem fld_33_2 : tfld Try.prog 33 2 = some (2, 31) := by kernel_rfl
@[go_sem] theorem zer_33 : tzero Try.prog 33 = some [.lit (.string ⟨#[]⟩), .lit (.bool false), .nil] := by kernel_rfl
@[go_sem] theorem tsz_37 : tsz Try.prog 37 = some 1 := by kernel_rfl
@[go_sem] theorem rowt_37 : isRowT Try.prog 37 = some false := by kernel_rfl
@[go_sem] theorem tel_37 : tel Try.prog 37 = some 56 := by kernel_rfl
@[go_sem] theorem tby_37 : tbytes Try.prog 37 = some 24 := by kernel_rfl
@[go_sem] theorem bol_37 : isBoolT Try.prog 37 = false := by kernel_rfl
@[go_sem] theorem plc_37 : placesOf Try.prog 37 = none := by kernel_rfl
@[go_sem] theorem knd_37 : kindOf Try.prog 37 = none := by kernel_rfl
@[go_sem] theorem str_37 : isStringT Try.prog 37 = false := by kernel_rfl
@[go_sem] theorem byt_37 : isBytesT Try.prog 37 = false := by kernel_rfl
@[go_sem] theorem slc_37 : isSliceT Try.prog 37 = true := by kernel_rfl
@[go_sem] theorem zer_37 : tzero Try.prog 37 = some [.nil] := by kernel_rfl
@[go_sem] theorem tsz_39 : tsz Try.prog 39 = some 3 := by kernel_rfl
@[go_sem] theorem rowt_39 : isRowT Try.prog 39 = some true := by kernel_rfl
@[go_sem] theorem tel_39 : tel Try.prog 39 = none := by kernel_rfl
@[go_sem] theorem tby_39 : tbytes Try.prog 39 = some 48 := by kernel_rfl
@[go_sem] theorem bol_39 : isBoolT Try.prog 39 = false := by kernel_rfl
@[go_sem] theorem plc_39 : placesOf Try.prog 39 = some [(0, 1), (1, 1), (2, 1)] := by kernel_rfl
@[go_sem] theorem knd_39 : kindOf Try.prog 39 = none := by kernel_rfl
@[go_sem] theorem str_39 : isStringT Try.prog 39 = false := by kernel_rfl
@[go_sem] theorem byt_39 : isBytesT Try.prog 39 = false := by kernel_rfl
@[go_sem] theorem slc_39 : isSliceT Try.prog 39 = false := by kernel_rfl
@[go_sem] theorem fld_39_0 : tfld Try.prog 39 0 = some (0, 9) := by kernel_rfl
@[go_sem] theorem fld_39_1 : tfld Try.prog 39 1 = some (1, 4) := by kernel_rfl
@[go_sem] theorem fld_39_2 : tfld Try.prog 39 2 = some (2, 37) := by kernel_rfl
@[go_sem] theorem zer_39 : tzero Try.prog 39 = some [.lit (.string ⟨#[]⟩), .lit (.bool false), .nil] := by kernel_rfl
@[go_sem] theorem tsz_41 : tsz Try.prog 41 = some 1 := by kernel_rfl
@[go_sem] theorem rowt_41 : isRowT Try.prog 41 = some false := by kernel_rfl
@[go_sem] theorem tel_41 : tel Try.prog 41 = none := by kernel_rfl
@[go_sem] theorem tby_41 : tbytes Try.prog 41 = some 0 := by kernel_rfl
@[go_sem] theorem bol_41 : isBoolT Try.prog 41 = false := by kernel_rfl
@[go_sem] theorem plc_41 : placesOf Try.prog 41 = none := by kernel_rfl
@[go_sem] theorem knd_41 : kindOf Try.prog 41 = none := by kernel_rfl
@[go_sem] theorem str_41 : isStringT Try.prog 41 = false := by kernel_rfl
@[go_sem] theorem byt_41 : isBytesT Try.prog 41 = false := by kernel_rfl
@[go_sem] theorem slc_41 : isSliceT Try.prog 41 = false := by kernel_rfl
@[go_sem] theorem tsz_49 : tsz Try.prog 49 = some 1 := by kernel_rfl
@[go_sem] theorem rowt_49 : isRowT Try.prog 49 = some false := by kernel_rfl
@[go_sem] theorem tel_49 : tel Try.prog 49 = some 9 := by kernel_rfl
@[go_sem] theorem tby_49 : tbytes Try.prog 49 = some 24 := by kernel_rfl
@[go_sem] theorem bol_49 : isBoolT Try.prog 49 = false := by kernel_rfl
@[go_sem] theorem plc_49 : placesOf Try.prog 49 = none := by kernel_rfl
@[go_sem] theorem knd_49 : kindOf Try.prog 49 = none := by kernel_rfl
@[go_sem] theorem str_49 : isStringT Try.prog 49 = false := by kernel_rfl
@[go_sem] theorem byt_49 : isBytesT Try.prog 49 = false := by kernel_rfl
@[go_sem] theorem slc_49 : isSliceT Try.prog 49 = true := by kernel_rfl
@[go_sem] theorem zer_49 : tzero Try.prog 49 = some [.nil] := by kernel_rfl
@[go_sem] theorem tsz_56 : tsz Try.prog 56 = some 3 := by kernel_rfl
@[go_sem] theorem rowt_56 : isRowT Try.prog 56 = some true := by kernel_rfl
@[go_sem] theorem tel_56 : tel Try.prog 56 = none := by kernel_rfl
@[go_sem] theorem tby_56 : tbytes Try.prog 56 = some 32 := by kernel_rfl
@[go_sem] theorem bol_56 : isBoolT Try.prog 56 = false := by kernel_rfl
@[go_sem] theorem plc_56 : placesOf Try.prog 56 = some [(0, 1), (1, 1), (2, 1)] := by kernel_rfl
@[go_sem] theorem knd_56 : kindOf Try.prog 56 = none := by kernel_rfl
@[go_sem] theorem str_56 : isStringT Try.prog 56 = false := by kernel_rfl
@[go_sem] theorem byt_56 : isBytesT Try.prog 56 = false := by kernel_rfl
@[go_sem] theorem slc_56 : isSliceT Try.prog 56 = false := by kernel_rfl
@[go_sem] theorem fld_56_0 : tfld Try.prog 56 0 = some (0, 3) := by kernel_rfl
@[go_sem] theorem fld_56_1 : tfld Try.prog 56 1 = some (1, 3) := by kernel_rfl
@[go_sem] theorem fld_56_2 : tfld Try.prog 56 2 = some (2, 9) := by kernel_rfl
@[go_sem] theorem zer_56 : tzero Try.prog 56 = some [.lit (.int .i64 0), .lit (.int .i64 0), .lit (.string ⟨#[]⟩)] := by kernel_rfl
@[go_sem] theorem sct_56 : structT Try.prog 56 = some [(0, 3), (1, 3), (2, 9)] := by kernel_rfl
@[go_sem] theorem tsz_57 : tsz Try.prog 57 = some 1 := by kernel_rfl
@[go_sem] theorem rowt_57 : isRowT Try.prog 57 = some false := by kernel_rfl
@[go_sem] theorem tel_57 : tel Try.prog 57 = some 5 := by kernel_rfl
@[go_sem] theorem tby_57 : tbytes Try.prog 57 = some 24 := by kernel_rfl
@[go_sem] theorem bol_57 : isBoolT Try.prog 57 = false := by kernel_rfl
@[go_sem] theorem plc_57 : placesOf Try.prog 57 = none := by kernel_rfl
@[go_sem] theorem knd_57 : kindOf Try.prog 57 = none := by kernel_rfl
@[go_sem] theorem str_57 : isStringT Try.prog 57 = false := by kernel_rfl
@[go_sem] theorem byt_57 : isBytesT Try.prog 57 = true := by kernel_rfl
@[go_sem] theorem slc_57 : isSliceT Try.prog 57 = true := by kernel_rfl
@[go_sem] theorem zer_57 : tzero Try.prog 57 = some [.nil] := by kernel_rfl
@[go_sem] theorem tsz_59 : tsz Try.prog 59 = some 3 := by kernel_rfl
@[go_sem] theorem rowt_59 : isRowT Try.prog 59 = some true := by kernel_rfl
@[go_sem] theorem tel_59 : tel Try.prog 59 = none := by kernel_rfl
@[go_sem] theorem tby_59 : tbytes Try.prog 59 = some 32 := by kernel_rfl
@[go_sem] theorem bol_59 : isBoolT Try.prog 59 = false := by kernel_rfl
@[go_sem] theorem plc_59 : placesOf Try.prog 59 = some [(0, 1), (1, 1), (2, 1)] := by kernel_rfl
@[go_sem] theorem knd_59 : kindOf Try.prog 59 = none := by kernel_rfl
@[go_sem] theorem str_59 : isStringT Try.prog 59 = false := by kernel_rfl
@[go_sem] theorem byt_59 : isBytesT Try.prog 59 = false := by kernel_rfl
@[go_sem] theorem slc_59 : isSliceT Try.prog 59 = false := by kernel_rfl
@[go_sem] theorem fld_59_0 : tfld Try.prog 59 0 = some (0, 3) := by kernel_rfl
@[go_sem] theorem fld_59_1 : tfld Try.prog 59 1 = some (1, 3) := by kernel_rfl
@[go_sem] theorem fld_59_2 : tfld Try.prog 59 2 = some (2, 9) := by kernel_rfl
@[go_sem] theorem zer_59 : tzero Try.prog 59 = some [.lit (.int .i64 0), .lit (.int .i64 0), .lit (.string ⟨#[]⟩)] := by kernel_rfl
@[go_sem] theorem sct_59 : structT Try.prog 59 = some [(0, 3), (1, 3), (2, 9)] := by kernel_rfl
theorem hf2 : Try.prog.funcs[2]? = some Try.f2 := by kernel_rfl
theorem he2 : enters Try.prog 2 = true := by kernel_rfl
theorem hf3 : Try.prog.funcs[3]? = some Try.f3 := by kernel_rfl
theorem he3 : enters Try.prog 3 = true := by kernel_rfl
theorem hf4 : Try.prog.funcs[4]? = some Try.f4 := by kernel_rfl
theorem he4 : enters Try.prog 4 = true := by kernel_rfl
theorem hf5 : Try.prog.funcs[5]? = some Try.f5 := by kernel_rfl
theorem he5 : enters Try.prog 5 = true := by kernel_rfl
theorem hf6 : Try.prog.funcs[6]? = some Try.f6 := by kernel_rfl
theorem he6 : enters Try.prog 6 = true := by kernel_rfl
theorem hf7 : Try.prog.funcs[7]? = some Try.f7 := by kernel_rfl
theorem he7 : enters Try.prog 7 = true := by kernel_rfl
theorem hf8 : Try.prog.funcs[8]? = some Try.f8 := by kernel_rfl
theorem he8 : enters Try.prog 8 = true := by kernel_rfl
theorem hf9 : Try.prog.funcs[9]? = some Try.f9 := by kernel_rfl
theorem he9 : enters Try.prog 9 = true := by kernel_rfl
theorem hf10 : Try.prog.funcs[10]? = some Try.f10 := by kernel_rfl
theorem he10 : enters Try.prog 10 = true := by kernel_rfl
theorem hf11 : Try.prog.funcs[11]? = some Try.f11 := by kernel_rfl
theorem he11 : enters Try.prog 11 = true := by kernel_rfl
theorem hf12 : Try.prog.funcs[12]? = some Try.f12 := by kernel_rfl
theorem he12 : enters Try.prog 12 = true := by kernel_rfl
theorem hf13 : Try.prog.funcs[13]? = some Try.f13 := by kernel_rfl
theorem he13 : enters Try.prog 13 = true := by kernel_rfl
theorem hf14 : Try.prog.funcs[14]? = some Try.f14 := by kernel_rfl
theorem he14 : enters Try.prog 14 = true := by kernel_rfl
theorem hf15 : Try.prog.funcs[15]? = some Try.f15 := by kernel_rfl
theorem he15 : enters Try.prog 15 = true := by kernel_rfl
theorem hf16 : Try.prog.funcs[16]? = some Try.f16 := by kernel_rfl
theorem he16 : enters Try.prog 16 = true := by kernel_rfl
theorem hf17 : Try.prog.funcs[17]? = some Try.f17 := by kernel_rfl
theorem he17 : enters Try.prog 17 = true := by kernel_rfl
theorem hf18 : Try.prog.funcs[18]? = some Try.f18 := by kernel_rfl
theorem he18 : enters Try.prog 18 = true := by kernel_rfl
theorem hf19 : Try.prog.funcs[19]? = some Try.f19 := by kernel_rfl
theorem he19 : enters Try.prog 19 = true := by kernel_rfl
theorem hf20 : Try.prog.funcs[20]? = some Try.f20 := by kernel_rfl
theorem he20 : enters Try.prog 20 = true := by kernel_rfl
theorem hf21 : Try.prog.funcs[21]? = some Try.f21 := by kernel_rfl
theorem he21 : enters Try.prog 21 = true := by kernel_rfl
theorem hf22 : Try.prog.funcs[22]? = some Try.f22 := by kernel_rfl
theorem he22 : enters Try.prog 22 = true := by kernel_rfl
theorem hf23 : Try.prog.funcs[23]? = some Try.f23 := by kernel_rfl
theorem he23 : enters Try.prog 23 = true := by kernel_rfl
theorem hf24 : Try.prog.funcs[24]? = some Try.f24 := by kernel_rfl
theorem he24 : enters Try.prog 24 = true := by kernel_rfl
theorem hf25 : Try.prog.funcs[25]? = some Try.f25 := by kernel_rfl
theorem he25 : enters Try.prog 25 = true := by kernel_rfl
theorem hf26 : Try.prog.funcs[26]? = some Try.f26 := by kernel_rfl
theorem he26 : enters Try.prog 26 = true := by kernel_rfl
theorem hf27 : Try.prog.funcs[27]? = some Try.f27 := by kernel_rfl
theorem he27 : enters Try.prog 27 = true := by kernel_rfl
theorem hf28 : Try.prog.funcs[28]? = some Try.f28 := by kernel_rfl
theorem he28 : enters Try.prog 28 = true := by kernel_rfl
theorem hf29 : Try.prog.funcs[29]? = some Try.f29 := by kernel_rfl
theorem he29 : enters Try.prog 29 = true := by kernel_rfl
theorem hf30 : Try.prog.funcs[30]? = some Try.f30 := by kernel_rfl
theorem he30 : enters Try.prog 30 = true := by kernel_rfl
theorem hf31 : Try.prog.funcs[31]? = some Try.f31 := by kernel_rfl
theorem he31 : enters Try.prog 31 = true := by kernel_rfl
theorem hf32 : Try.prog.funcs[32]? = some Try.f32 := by kernel_rfl
theorem he32 : enters Try.prog 32 = true := by kernel_rfl
theorem hf33 : Try.prog.funcs[33]? = some Try.f33 := by kernel_rfl
theorem he33 : enters Try.prog 33 = true := by kernel_rfl
theorem hf34 : Try.prog.funcs[34]? = some Try.f34 := by kernel_rfl
theorem he34 : enters Try.prog 34 = true := by kernel_rfl
theorem hf35 : Try.prog.funcs[35]? = some Try.f35 := by kernel_rfl
theorem he35 : enters Try.prog 35 = true := by kernel_rfl
theorem hf36 : Try.prog.funcs[36]? = some Try.f36 := by kernel_rfl
theorem he36 : enters Try.prog 36 = true := by kernel_rfl
theorem hf37 : Try.prog.funcs[37]? = some Try.f37 := by kernel_rfl
theorem he37 : enters Try.prog 37 = true := by kernel_rfl
theorem hf38 : Try.prog.funcs[38]? = some Try.f38 := by kernel_rfl
theorem he38 : enters Try.prog 38 = true := by kernel_rfl
theorem hf39 : Try.prog.funcs[39]? = some Try.f39 := by kernel_rfl
theorem he39 : enters Try.prog 39 = true := by kernel_rfl
theorem hf40 : Try.prog.funcs[40]? = some Try.f40 := by kernel_rfl
theorem he40 : enters Try.prog 40 = true := by kernel_rfl
theorem hf41 : Try.prog.funcs[41]? = some Try.f41 := by kernel_rfl
theorem he41 : enters Try.prog 41 = true := by kernel_rfl
theorem hf42 : Try.prog.funcs[42]? = some Try.f42 := by kernel_rfl
theorem he42 : enters Try.prog 42 = true := by kernel_rfl
theorem hf43 : Try.prog.funcs[43]? = some Try.f43 := by kernel_rfl
theorem he43 : enters Try.prog 43 = true := by kernel_rfl
theorem hf44 : Try.prog.funcs[44]? = some Try.f44 := by kernel_rfl
theorem he44 : enters Try.prog 44 = true := by kernel_rfl
theorem hf45 : Try.prog.funcs[45]? = some Try.f45 := by kernel_rfl
theorem he45 : enters Try.prog 45 = true := by kernel_rfl
theorem hf46 : Try.prog.funcs[46]? = some Try.f46 := by kernel_rfl
theorem he46 : enters Try.prog 46 = true := by kernel_rfl
theorem hf47 : Try.prog.funcs[47]? = some Try.f47 := by kernel_rfl
theorem he47 : enters Try.prog 47 = true := by kernel_rfl
theorem hf48 : Try.prog.funcs[48]? = some Try.f48 := by kernel_rfl
theorem he48 : enters Try.prog 48 = true := by kernel_rfl
theorem hf49 : Try.prog.funcs[49]? = some Try.f49 := by kernel_rfl
theorem he49 : enters Try.prog 49 = true := by kernel_rfl
theorem hf50 : Try.prog.funcs[50]? = some Try.f50 := by kernel_rfl
theorem he50 : enters Try.prog 50 = true := by kernel_rfl
theorem hf51 : Try.prog.funcs[51]? = some Try.f51 := by kernel_rfl
theorem he51 : enters Try.prog 51 = true := by kernel_rfl
theorem hf52 : Try.prog.funcs[52]? = some Try.f52 := by kernel_rfl
theorem he52 : enters Try.prog 52 = true := by kernel_rfl
theorem hf53 : Try.prog.funcs[53]? = some Try.f53 := by kernel_rfl
theorem he53 : enters Try.prog 53 = true := by kernel_rfl
theorem hf54 : Try.prog.funcs[54]? = some Try.f54 := by kernel_rfl
theorem he54 : enters Try.prog 54 = true := by kernel_rfl
theorem hf55 : Try.prog.funcs[55]? = some Try.f55 := by kernel_rfl
theorem he55 : enters Try.prog 55 = true := by kernel_rfl
theorem hf56 : Try.prog.funcs[56]? = some Try.f56 := by kernel_rfl
theorem he56 : enters Try.prog 56 = true := by kernel_rfl
theorem hf57 : Try.prog.funcs[57]? = some Try.f57 := by kernel_rfl
theorem he57 : enters Try.prog 57 = true := by kernel_rfl
theorem hf58 : Try.prog.funcs[58]? = some Try.f58 := by kernel_rfl
theorem he58 : enters Try.prog 58 = true := by kernel_rfl
theorem hf59 : Try.prog.funcs[59]? = some Try.f59 := by kernel_rfl
theorem he59 : enters Try.prog 59 = true := by kernel_rfl
theorem hf60 : Try.prog.funcs[60]? = some Try.f60 := by kernel_rfl
theorem he60 : enters Try.prog 60 = true := by kernel_rfl
theorem hf61 : Try.prog.funcs[61]? = some Try.f61 := by kernel_rfl
theorem he61 : enters Try.prog 61 = true := by kernel_rfl
theorem hf62 : Try.prog.funcs[62]? = some Try.f62 := by kernel_rfl
theorem he62 : enters Try.prog 62 = true := by kernel_rfl
theorem hf63 : Try.prog.funcs[63]? = some Try.f63 := by kernel_rfl
theorem he63 : enters Try.prog 63 = true := by kernel_rfl
theorem hf64 : Try.prog.funcs[64]? = some Try.f64 := by kernel_rfl
theorem he64 : enters Try.prog 64 = true := by kernel_rfl
theorem hf65 : Try.prog.funcs[65]? = some Try.f65 := by kernel_rfl
theorem he65 : enters Try.prog 65 = true := by kernel_rfl
theorem hf66 : Try.prog.funcs[66]? = some Try.f66 := by kernel_rfl
theorem he66 : enters Try.prog 66 = true := by kernel_rfl
theorem hf67 : Try.prog.funcs[67]? = some Try.f67 := by kernel_rfl
theorem he67 : enters Try.prog 67 = true := by kernel_rfl
theorem hf68 : Try.prog.funcs[68]? = some Try.f68 := by kernel_rfl
theorem he68 : enters Try.prog 68 = true := by kernel_rfl
theorem hf69 : Try.prog.funcs[69]? = some Try.f69 := by kernel_rfl
theorem he69 : enters Try.prog 69 = true := by kernel_rfl
theorem hf70 : Try.prog.funcs[70]? = some Try.f70 := by kernel_rfl
theorem he70 : enters Try.prog 70 = true := by kernel_rfl
theorem hf71 : Try.prog.funcs[71]? = some Try.f71 := by kernel_rfl
theorem he71 : enters Try.prog 71 = true := by kernel_rfl
theorem hf72 : Try.prog.funcs[72]? = some Try.f72 := by kernel_rfl
theorem he72 : enters Try.prog 72 = true := by kernel_rfl
theorem hf73 : Try.prog.funcs[73]? = some Try.f73 := by kernel_rfl
theorem he73 : enters Try.prog 73 = true := by kernel_rfl
theorem hf74 : Try.prog.funcs[74]? = some Try.f74 := by kernel_rfl
theorem he74 : enters Try.prog 74 = true := by kernel_rfl
theorem hf75 : Try.prog.funcs[75]? = some Try.f75 := by kernel_rfl
theorem he75 : enters Try.prog 75 = true := by kernel_rfl
theorem hf76 : Try.prog.funcs[76]? = some Try.f76 := by kernel_rfl
theorem he76 : enters Try.prog 76 = true := by kernel_rfl
theorem hf77 : Try.prog.funcs[77]? = some Try.f77 := by kernel_rfl
theorem he77 : enters Try.prog 77 = true := by kernel_rfl
theorem hf78 : Try.prog.funcs[78]? = some Try.f78 := by kernel_rfl
theorem he78 : enters Try.prog 78 = true := by kernel_rfl
theorem hf79 : Try.prog.funcs[79]? = some Try.f79 := by kernel_rfl
theorem he79 : enters Try.prog 79 = true := by kernel_rfl
theorem hf80 : Try.prog.funcs[80]? = some Try.f80 := by kernel_rfl
theorem he80 : enters Try.prog 80 = true := by kernel_rfl
theorem hf81 : Try.prog.funcs[81]? = some Try.f81 := by kernel_rfl
theorem he81 : enters Try.prog 81 = true := by kernel_rfl
theorem hf82 : Try.prog.funcs[82]? = some Try.f82 := by kernel_rfl
theorem he82 : enters Try.prog 82 = true := by kernel_rfl
theorem hf83 : Try.prog.funcs[83]? = some Try.f83 := by kernel_rfl
theorem he83 : enters Try.prog 83 = true := by kernel_rfl
theorem hf84 : Try.prog.funcs[84]? = some Try.f84 := by kernel_rfl
theorem he84 : enters Try.prog 84 = true := by kernel_rfl
theorem hf85 : Try.prog.funcs[85]? = some Try.f85 := by kernel_rfl
theorem he85 : enters Try.prog 85 = true := by kernel_rfl
end Go.Proofs.Ytpdfdngekdaliaa
