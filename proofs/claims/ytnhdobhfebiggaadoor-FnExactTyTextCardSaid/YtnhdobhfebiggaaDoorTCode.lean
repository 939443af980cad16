import Derived.Test.YtnhdobhfebiggaaDoorHLVc
import Derived.KernelRfl
import Derived.Test.YtnhdobhfebiggaaDoorProg
namespace W
open Go HL
set_option maxRecDepth 1000000
namespace F
abbrev main_main : Nat := 0
abbrev gosem_cut : Nat := 1
abbrev gosem_cut_init : Nat := 2
abbrev laws_FnExactTyText : Nat := 3
abbrev laws_FnExactResText : Nat := 4
abbrev laws_szTy : Nat := 5
abbrev spec_TyText : Nat := 6
abbrev laws_toTy : Nat := 7
abbrev impl_TyText : Nat := 8
abbrev laws_eqTy : Nat := 9
abbrev laws_szRes : Nat := 10
abbrev spec_ResText : Nat := 11
abbrev laws_toRes : Nat := 12
abbrev impl_ResText : Nat := 13
abbrev laws_eqRes : Nat := 14
abbrev laws_szTyS : Nat := 15
abbrev spec_l9Text : Nat := 16
abbrev laws_toTyS : Nat := 17
abbrev impl_tyText : Nat := 18
abbrev laws_eqTyS : Nat := 19
abbrev laws_szResS : Nat := 20
abbrev spec_l13Text : Nat := 21
abbrev laws_toResS : Nat := 22
abbrev impl_resText : Nat := 23
abbrev laws_eqResS : Nat := 24
abbrev spec_l5Num : Nat := 25
abbrev strconv_Itoa : Nat := 26
abbrev spec_l13Num : Nat := 27
abbrev spec_l1In : Nat := 28
abbrev impl_in : Nat := 29
abbrev strings_HasPrefix : Nat := 30
abbrev internal_strconv_Itoa : Nat := 31
abbrev internal_stringslite_HasPrefix : Nat := 32
abbrev internal_strconv_FormatInt : Nat := 33
abbrev internal_strconv_small : Nat := 34
abbrev internal_strconv_numDigits : Nat := 35
abbrev internal_strconv_formatBase10 : Nat := 36
abbrev internal_strconv_formatBits : Nat := 37
abbrev internal_strconv_log10Pow2 : Nat := 38
abbrev math_bits_Len64 : Nat := 39
abbrev internal_strconv_bool2 : Nat := 40
abbrev internal_strconv_isPowerOfTwo : Nat := 41
abbrev math_bits_TrailingZeros : Nat := 42
abbrev math_bits_TrailingZeros32 : Nat := 43
abbrev math_bits_TrailingZeros64 : Nat := 44
abbrev runtime_boundsError_Error : Nat := 45
abbrev runtime_boundsError_RuntimeError : Nat := 46
abbrev runtime_errorString_Error : Nat := 47
abbrev runtime_errorString_RuntimeError : Nat := 48
abbrev runtime_plainError_Error : Nat := 49
abbrev runtime_plainError_RuntimeError : Nat := 50
abbrev runtime_errorAddressString_Error : Nat := 51
abbrev runtime_errorAddressString_RuntimeError : Nat := 52
abbrev runtime_TypeAssertionError_Error : Nat := 53
abbrev runtime_TypeAssertionError_RuntimeError : Nat := 54
abbrev runtime_PanicNilError_Error : Nat := 55
abbrev runtime_PanicNilError_RuntimeError : Nat := 56
abbrev internal_abi_Type_Align : Nat := 57
abbrev internal_runtime_maps_unhashableTypeError_Error : Nat := 58
abbrev internal_runtime_maps_unhashableTypeError_RuntimeError : Nat := 59
abbrev internal_abi_Kind_String : Nat := 60
abbrev var_s_door_gosem_cut_vars_holds_initialisers_alone_see_the_manifest_s_row_cutvarsword_look_11_test_files_too : Nat := 61
abbrev var_s_door_internal_strconv_uint64pow10_is_laid_by_its_own_initialiser_plain_data_look_11 : Nat := 62
abbrev var_s_door_math_bits_deBruijn32tab_is_laid_by_its_own_initialiser_plain_data_look_11 : Nat := 63
abbrev var_s_door_math_bits_deBruijn64tab_is_laid_by_its_own_initialiser_plain_data_look_11 : Nat := 64
abbrev var_s_door_the_look_of_gosem_cut_vars_went_over_the_folder_that_the_caller_named_as_the_repository_s_root_look_11 : Nat := 65
abbrev gosem_cut_vars : Nat := 66
end F
namespace H
def impl_tyText_b5 : HCode := (.seq (.reg [⟨some 77, .mov (.t 6), none⟩, ⟨some 78, .bin .add (.t 77) (.c (.str ⟨⟨[32, 45, 62, 32]⟩⟩)), none⟩, ⟨some 79, .mov (.t 8), none⟩, ⟨some 80, .bin .add (.t 78) (.t 79), none⟩, ⟨some 81, .mov (.t 7), none⟩, ⟨some 82, .mov (.t 81), none⟩, ⟨some 83, .mov (.t 9), some (82, true)⟩, ⟨some 84, .pick (.t 82) (.t 83) (.c (.bool false)), none⟩, ⟨some 4, .mov (.t 80), none⟩, ⟨some 5, .mov (.t 84), none⟩]) .ret)
def impl_tyText_b7 : HCode := (.reg [⟨some 74, .mov (.t 6), none⟩, ⟨some 75, .bin .add (.c (.str ⟨⟨[40]⟩⟩)) (.t 74), none⟩, ⟨some 76, .bin .add (.t 75) (.c (.str ⟨⟨[41]⟩⟩)), none⟩, ⟨some 6, .mov (.t 76), none⟩])
def impl_tyText_b6 : HCode := (.cond (.t 73) impl_tyText_b7 .skip)
def impl_tyText_b4 : HCode := (.seq (.seq (.reg [⟨some 68, .faddr 3 (.t 2), none⟩, ⟨some 69, .load false 1 (.t 68), none⟩, ⟨some 70, .iaddr 4 (.t 69) (.c (.int .i64 0)), none⟩, ⟨some 71, .faddr 0 (.t 70), none⟩, ⟨some 72, .load false 1 (.t 71), none⟩, ⟨some 73, .bin .eql (.t 72) (.c (.int .i64 4)), none⟩]) impl_tyText_b6) impl_tyText_b5)
def impl_tyText_b3 : HCode := (.seq (.reg [⟨some 59, .faddr 3 (.t 2), none⟩, ⟨some 60, .load false 1 (.t 59), none⟩, ⟨some 61, .iaddr 4 (.t 60) (.c (.int .i64 1)), none⟩, ⟨some 62, .load true 4 (.t 61), none⟩, ⟨some 63, .mov (.t 1), none⟩, ⟨some 64, .bin .add (.t 63) (.c (.int .i64 1)), none⟩, ⟨some 65, .call (.c (.fn F.impl_tyText [] [])) [(.t 62), (.t 64)], none⟩, ⟨some 58, .mov (.t 65), none⟩, ⟨some 66, .ext (.t 58) 0, none⟩, ⟨some 67, .ext (.t 58) 1, none⟩, ⟨some 8, .mov (.t 66), none⟩, ⟨some 9, .mov (.t 67), none⟩]) impl_tyText_b4)
def impl_tyText_b2 : HCode := (.seq (.reg [⟨some 49, .faddr 3 (.t 2), none⟩, ⟨some 50, .load false 1 (.t 49), none⟩, ⟨some 51, .iaddr 4 (.t 50) (.c (.int .i64 0)), none⟩, ⟨some 52, .load true 4 (.t 51), none⟩, ⟨some 53, .mov (.t 1), none⟩, ⟨some 54, .bin .add (.t 53) (.c (.int .i64 1)), none⟩, ⟨some 55, .call (.c (.fn F.impl_tyText [] [])) [(.t 52), (.t 54)], none⟩, ⟨some 48, .mov (.t 55), none⟩, ⟨some 56, .ext (.t 48) 0, none⟩, ⟨some 57, .ext (.t 48) 1, none⟩, ⟨some 6, .mov (.t 56), none⟩, ⟨some 7, .mov (.t 57), none⟩]) impl_tyText_b3)
def impl_tyText_b9 : HCode := (.seq (.reg [⟨some 4, .mov (.c (.str ⟨⟨[]⟩⟩)), none⟩, ⟨some 5, .mov (.c (.bool false)), none⟩]) .ret)
def impl_tyText_b12 : HCode := (.seq (.reg [⟨some 4, .mov (.c (.str ⟨⟨[73, 110, 116]⟩⟩)), none⟩, ⟨some 5, .mov (.c (.bool true)), none⟩]) .ret)
def impl_tyText_b15 : HCode := (.seq (.reg [⟨some 4, .mov (.c (.str ⟨⟨[66, 111, 111, 108]⟩⟩)), none⟩, ⟨some 5, .mov (.c (.bool true)), none⟩]) .ret)
def impl_tyText_b18 : HCode := (.seq (.reg [⟨some 25, .faddr 1 (.t 2), none⟩, ⟨some 26, .load false 1 (.t 25), none⟩, ⟨some 4, .mov (.t 26), none⟩, ⟨some 5, .mov (.c (.bool true)), none⟩]) .ret)
def impl_tyText_b21 : HCode := (.seq (.dreg (.q ⟨some 31, .faddr 2 (.t 2), none⟩ (.q ⟨some 32, .load false 1 (.t 31), none⟩ (.q ⟨some 35, .faddr 2 (.t 2), none⟩ (.q ⟨some 36, .load false 1 (.t 35), none⟩ (.q ⟨some 37, .bin .geq (.t 36) (.c (.int .i64 0)), none⟩ (.l ⟨some 33, .call (.c (.fn F.strconv_Itoa [] [])) [(.t 32)], none⟩ [⟨some 37, .bin .geq (.t 36) (.c (.int .i64 0)), none⟩, ⟨some 36, .load false 1 (.t 35), none⟩, ⟨some 35, .faddr 2 (.t 2), none⟩] (.q ⟨some 34, .bin .add (.c (.str ⟨⟨[116]⟩⟩)) (.t 33), none⟩ (.q ⟨some 4, .mov (.t 34), none⟩ (.q ⟨some 5, .mov (.t 37), none⟩ .done))) .none))))))) .ret)
def impl_tyText_b24 : HCode := (.seq (.reg [⟨some 4, .mov (.c (.str ⟨⟨[]⟩⟩)), none⟩, ⟨some 5, .mov (.c (.bool false)), none⟩]) .ret)
def impl_tyText_b23 : HCode := (.cond (.t 38) impl_tyText_b24 .skip)
def impl_tyText_b22 : HCode := (.seq (.reg [⟨some 39, .faddr 0 (.t 2), none⟩, ⟨some 40, .load false 1 (.t 39), none⟩, ⟨some 41, .bin .neq (.t 40) (.c (.int .i64 4)), none⟩, ⟨some 42, .mov (.t 41), none⟩, ⟨some 43, .faddr 3 (.t 2), some (42, false)⟩, ⟨some 44, .load false 1 (.t 43), some (42, false)⟩, ⟨some 45, .len (.t 44), some (42, false)⟩, ⟨some 46, .bin .neq (.t 45) (.c (.int .i64 2)), some (42, false)⟩, ⟨some 47, .pick (.t 42) (.c (.bool true)) (.t 46), none⟩, ⟨some 38, .mov (.t 47), none⟩]) impl_tyText_b23)
def impl_tyText_b20 : HCode := (.cond (.t 27) impl_tyText_b21 impl_tyText_b22)
def impl_tyText_b19 : HCode := (.seq (.reg [⟨some 28, .faddr 0 (.t 2), none⟩, ⟨some 29, .load false 1 (.t 28), none⟩, ⟨some 30, .bin .eql (.t 29) (.c (.int .i64 5)), none⟩, ⟨some 27, .mov (.t 30), none⟩]) impl_tyText_b20)
def impl_tyText_b17 : HCode := (.cond (.t 21) impl_tyText_b18 impl_tyText_b19)
def impl_tyText_b16 : HCode := (.seq (.reg [⟨some 22, .faddr 0 (.t 2), none⟩, ⟨some 23, .load false 1 (.t 22), none⟩, ⟨some 24, .bin .eql (.t 23) (.c (.int .i64 3)), none⟩, ⟨some 21, .mov (.t 24), none⟩]) impl_tyText_b17)
def impl_tyText_b14 : HCode := (.cond (.t 17) impl_tyText_b15 impl_tyText_b16)
def impl_tyText_b13 : HCode := (.seq (.reg [⟨some 18, .faddr 0 (.t 2), none⟩, ⟨some 19, .load false 1 (.t 18), none⟩, ⟨some 20, .bin .eql (.t 19) (.c (.int .i64 2)), none⟩, ⟨some 17, .mov (.t 20), none⟩]) impl_tyText_b14)
def impl_tyText_b11 : HCode := (.cond (.t 13) impl_tyText_b12 impl_tyText_b13)
def impl_tyText_b10 : HCode := (.seq (.reg [⟨some 14, .faddr 0 (.t 2), none⟩, ⟨some 15, .load false 1 (.t 14), none⟩, ⟨some 16, .bin .eql (.t 15) (.c (.int .i64 1)), none⟩, ⟨some 13, .mov (.t 16), none⟩]) impl_tyText_b11)
def impl_tyText_b8 : HCode := (.cond (.t 10) impl_tyText_b9 impl_tyText_b10)
def impl_tyText_b1 : HCode := (.seq (.block 0 (.seq (.reg [⟨some 11, .mov (.t 1), none⟩, ⟨some 12, .bin .gtr (.t 11) (.c (.int .i64 12)), none⟩, ⟨some 10, .mov (.t 12), none⟩]) impl_tyText_b8)) impl_tyText_b2)
def impl_tyText_b0 : HCode := (.seq (.reg [⟨some 2, .box (.t 0), none⟩, ⟨some 4, .mov (.c (.str ⟨⟨[]⟩⟩)), none⟩, ⟨some 5, .mov (.c (.bool false)), none⟩]) impl_tyText_b1)
def impl_tyText : HFunc := { np := 2, ntmps := 85, results := [(4, none), (5, none)], body := impl_tyText_b0 }
def impl_TyText_b3 : HCode := (.seq (.reg [⟨some 12, .mov (.t 3), none⟩, ⟨some 2, .mov (.t 12), none⟩]) .ret)
def impl_TyText_b5 : HCode := (.seq (.reg [⟨some 2, .mov (.c (.str ⟨⟨[]⟩⟩)), none⟩]) .ret)
def impl_TyText_b4 : HCode := (.cond (.t 11) impl_TyText_b5 .skip)
def impl_TyText_b2 : HCode := (.seq (.seq (.reg [⟨some 10, .mov (.t 4), none⟩, ⟨some 11, .not (.t 10), none⟩]) impl_TyText_b4) impl_TyText_b3)
def impl_TyText_b1 : HCode := (.seq (.reg [⟨some 6, .load true 4 (.t 1), none⟩, ⟨some 7, .call (.c (.fn F.impl_tyText [] [])) [(.t 6), (.c (.int .i64 1))], none⟩, ⟨some 5, .mov (.t 7), none⟩, ⟨some 8, .ext (.t 5) 0, none⟩, ⟨some 9, .ext (.t 5) 1, none⟩, ⟨some 3, .mov (.t 8), none⟩, ⟨some 4, .mov (.t 9), none⟩]) impl_TyText_b2)
def impl_TyText_b0 : HCode := (.seq (.reg [⟨some 1, .box (.t 0), none⟩, ⟨some 2, .mov (.c (.str ⟨⟨[]⟩⟩)), none⟩]) impl_TyText_b1)
def impl_TyText : HFunc := { np := 1, ntmps := 13, results := [(2, none)], body := impl_TyText_b0 }
def laws_szTy_b5 : HCode := (.seq (.reg [⟨some 18, .mov (.t 1), none⟩, ⟨some 4, .mov (.t 18), none⟩]) .ret)
def laws_szTy_b7 : HCode := (.seq (.reg [⟨some 4, .mov (.c (.int .i64 (-1))), none⟩]) .ret)
def laws_szTy_b6 : HCode := (.cond (.t 17) laws_szTy_b7 .skip)
def laws_szTy_b4 : HCode := (.seq (.seq (.reg [⟨some 16, .mov (.t 1), none⟩, ⟨some 17, .bin .lss (.t 16) (.c (.int .i64 0)), none⟩]) laws_szTy_b6) laws_szTy_b5)
def laws_szTy_b3 : HCode := (.seq (.reg [⟨some 12, .faddr 3 (.t 2), none⟩, ⟨some 13, .load false 1 (.t 12), none⟩, ⟨some 14, .mov (.t 1), none⟩, ⟨some 15, .call (.c (.fn F.laws_szTyS [] [])) [(.t 13), (.t 14)], none⟩, ⟨some 1, .mov (.t 15), none⟩]) laws_szTy_b4)
def laws_szTy_b9 : HCode := (.seq (.reg [⟨some 4, .mov (.c (.int .i64 (-1))), none⟩]) .ret)
def laws_szTy_b8 : HCode := (.cond (.t 11) laws_szTy_b9 .skip)
def laws_szTy_b2 : HCode := (.seq (.seq (.reg [⟨some 10, .mov (.t 1), none⟩, ⟨some 11, .bin .lss (.t 10) (.c (.int .i64 0)), none⟩]) laws_szTy_b8) laws_szTy_b3)
def laws_szTy_b1 : HCode := (.seq (.reg [⟨some 5, .mov (.t 1), none⟩, ⟨some 6, .faddr 1 (.t 2), none⟩, ⟨some 7, .load false 1 (.t 6), none⟩, ⟨some 8, .slen (.t 7), none⟩, ⟨some 9, .bin .sub (.t 5) (.t 8), none⟩, ⟨some 1, .mov (.t 9), none⟩]) laws_szTy_b2)
def laws_szTy_b0 : HCode := (.seq (.reg [⟨some 2, .box (.t 0), none⟩, ⟨some 4, .mov (.c (.int .i64 0)), none⟩]) laws_szTy_b1)
def laws_szTy : HFunc := { np := 2, ntmps := 19, results := [(4, none)], body := laws_szTy_b0 }
def laws_szTyS_b4 : HCode := (.seq (.reg [⟨some 26, .mov (.t 1), none⟩, ⟨some 4, .mov (.t 26), none⟩]) .ret)
def laws_szTyS_b8 : HCode := (.reg [⟨some 16, .mov (.t 5), none⟩, ⟨some 17, .bin .add (.t 16) (.c (.int .i64 1)), none⟩, ⟨some 5, .mov (.t 17), none⟩])
def laws_szTyS_b11 : HCode := (.seq (.reg [⟨some 4, .mov (.c (.int .i64 (-1))), none⟩]) .ret)
def laws_szTyS_b10 : HCode := (.cond (.t 25) laws_szTyS_b11 .skip)
def laws_szTyS_b9 : HCode := (.seq (.reg [⟨some 24, .mov (.t 1), none⟩, ⟨some 25, .bin .lss (.t 24) (.c (.int .i64 0)), none⟩]) laws_szTyS_b10)
def laws_szTyS_b7 : HCode := (.seq (.block 1 (.seq (.reg [⟨some 18, .mov (.t 0), none⟩, ⟨some 19, .mov (.t 5), none⟩, ⟨some 20, .iaddr 4 (.t 18) (.t 19), none⟩, ⟨some 21, .load true 4 (.t 20), none⟩, ⟨some 22, .mov (.t 1), none⟩, ⟨some 23, .call (.c (.fn F.laws_szTy [] [])) [(.t 21), (.t 22)], none⟩, ⟨some 1, .mov (.t 23), none⟩]) laws_szTyS_b9)) laws_szTyS_b8)
def laws_szTyS_b12 : HCode := (.cond (.t 15) .skip (.exit 0))
def laws_szTyS_l6 : HCode := (.seq (.seq (.reg [⟨some 12, .mov (.t 5), none⟩, ⟨some 13, .mov (.t 0), none⟩, ⟨some 14, .len (.t 13), none⟩, ⟨some 15, .bin .lss (.t 12) (.t 14), none⟩]) laws_szTyS_b12) laws_szTyS_b7)
def laws_szTyS_b5 : HCode := (.block 0 (.loop laws_szTyS_l6))
def laws_szTyS_b3 : HCode := (.seq (.seq (.reg [⟨some 5, .mov (.c (.int .i64 0)), none⟩]) laws_szTyS_b5) laws_szTyS_b4)
def laws_szTyS_b14 : HCode := (.seq (.reg [⟨some 4, .mov (.c (.int .i64 (-1))), none⟩]) .ret)
def laws_szTyS_b13 : HCode := (.cond (.t 11) laws_szTyS_b14 .skip)
def laws_szTyS_b2 : HCode := (.seq (.seq (.reg [⟨some 10, .mov (.t 1), none⟩, ⟨some 11, .bin .lss (.t 10) (.c (.int .i64 0)), none⟩]) laws_szTyS_b13) laws_szTyS_b3)
def laws_szTyS_b1 : HCode := (.seq (.reg [⟨some 6, .mov (.t 1), none⟩, ⟨some 7, .mov (.t 0), none⟩, ⟨some 8, .len (.t 7), none⟩, ⟨some 9, .bin .sub (.t 6) (.t 8), none⟩, ⟨some 1, .mov (.t 9), none⟩]) laws_szTyS_b2)
def laws_szTyS_b0 : HCode := (.seq (.reg [⟨some 4, .mov (.c (.int .i64 0)), none⟩]) laws_szTyS_b1)
def laws_szTyS : HFunc := { np := 2, ntmps := 27, results := [(4, none)], body := laws_szTyS_b0 }
def laws_toTy_b6 : HCode := (.seq (.reg [⟨some 17, .load true 4 (.t 3), none⟩, ⟨none, .store 4 (.t 2) (.t 17), none⟩]) .ret)
def laws_toTy_b5 : HCode := (.seq (.reg [⟨some 13, .faddr 3 (.t 1), none⟩, ⟨some 14, .load false 1 (.t 13), none⟩, ⟨some 15, .call (.c (.fn F.laws_toTyS [] [])) [(.t 14)], none⟩, ⟨some 16, .faddr 3 (.t 3), none⟩, ⟨none, .store 1 (.t 16) (.t 15), none⟩]) laws_toTy_b6)
def laws_toTy_b4 : HCode := (.seq (.reg [⟨some 10, .faddr 2 (.t 1), none⟩, ⟨some 11, .load false 1 (.t 10), none⟩, ⟨some 12, .faddr 2 (.t 3), none⟩, ⟨none, .store 1 (.t 12) (.t 11), none⟩]) laws_toTy_b5)
def laws_toTy_b3 : HCode := (.seq (.reg [⟨some 7, .faddr 1 (.t 1), none⟩, ⟨some 8, .load false 1 (.t 7), none⟩, ⟨some 9, .faddr 1 (.t 3), none⟩, ⟨none, .store 1 (.t 9) (.t 8), none⟩]) laws_toTy_b4)
def laws_toTy_b2 : HCode := (.seq (.reg [⟨some 4, .faddr 0 (.t 1), none⟩, ⟨some 5, .load false 1 (.t 4), none⟩, ⟨some 6, .faddr 0 (.t 3), none⟩, ⟨none, .store 1 (.t 6) (.t 5), none⟩]) laws_toTy_b3)
def laws_toTy_b1 : HCode := (.seq (.reg [⟨some 3, .alloc (.agg [(.int .i64 0), (.str ⟨⟨[]⟩⟩), (.int .i64 0), .nils]), none⟩]) laws_toTy_b2)
def laws_toTy_b0 : HCode := (.seq (.reg [⟨some 1, .box (.t 0), none⟩, ⟨some 2, .alloc (.agg [(.int .i64 0), (.str ⟨⟨[]⟩⟩), (.int .i64 0), .nils]), none⟩]) laws_toTy_b1)
def laws_toTy : HFunc := { np := 1, ntmps := 18, results := [(2, some (true, 4))], body := laws_toTy_b0 }
def laws_toTyS_b3 : HCode := (.seq (.reg [⟨some 22, .mov (.t 3), none⟩, ⟨some 2, .mov (.t 22), none⟩]) .ret)
def laws_toTyS_b7 : HCode := (.reg [⟨some 12, .mov (.t 4), none⟩, ⟨some 13, .bin .add (.t 12) (.c (.int .i64 1)), none⟩, ⟨some 4, .mov (.t 13), none⟩])
def laws_toTyS_b6 : HCode := (.seq (.block 1 (.reg [⟨some 14, .mov (.t 3), none⟩, ⟨some 15, .mov (.t 4), none⟩, ⟨some 16, .mov (.t 0), none⟩, ⟨some 17, .mov (.t 4), none⟩, ⟨some 18, .iaddr 4 (.t 16) (.t 17), none⟩, ⟨some 19, .load true 4 (.t 18), none⟩, ⟨some 20, .call (.c (.fn F.laws_toTy [] [])) [(.t 19)], none⟩, ⟨some 21, .iaddr 4 (.t 14) (.t 15), none⟩, ⟨none, .store 4 (.t 21) (.t 20), none⟩])) laws_toTyS_b7)
def laws_toTyS_b8 : HCode := (.cond (.t 11) .skip (.exit 0))
def laws_toTyS_l5 : HCode := (.seq (.seq (.reg [⟨some 8, .mov (.t 4), none⟩, ⟨some 9, .mov (.t 0), none⟩, ⟨some 10, .len (.t 9), none⟩, ⟨some 11, .bin .lss (.t 8) (.t 10), none⟩]) laws_toTyS_b8) laws_toTyS_b6)
def laws_toTyS_b4 : HCode := (.block 0 (.loop laws_toTyS_l5))
def laws_toTyS_b2 : HCode := (.seq (.seq (.reg [⟨some 4, .mov (.c (.int .i64 0)), none⟩]) laws_toTyS_b4) laws_toTyS_b3)
def laws_toTyS_b1 : HCode := (.seq (.reg [⟨some 5, .mov (.t 0), none⟩, ⟨some 6, .len (.t 5), none⟩, ⟨some 7, .mkslice 4 56 (.agg [(.int .i64 0), (.str ⟨⟨[]⟩⟩), (.int .i64 0), .nils]) (.t 6) (.t 6), none⟩, ⟨some 3, .mov (.t 7), none⟩]) laws_toTyS_b2)
def laws_toTyS_b0 : HCode := (.seq (.reg [⟨some 2, .mov (.c .nils), none⟩]) laws_toTyS_b1)
def laws_toTyS : HFunc := { np := 1, ntmps := 23, results := [(2, none)], body := laws_toTyS_b0 }
def laws_eqTy_b5 : HCode := (.seq (.reg [⟨some 4, .mov (.c (.bool true)), none⟩]) .ret)
def laws_eqTy_b7 : HCode := (.seq (.reg [⟨some 4, .mov (.c (.bool false)), none⟩]) .ret)
def laws_eqTy_b6 : HCode := (.cond (.t 25) laws_eqTy_b7 .skip)
def laws_eqTy_b4 : HCode := (.seq (.seq (.reg [⟨some 20, .faddr 3 (.t 2), none⟩, ⟨some 21, .load false 1 (.t 20), none⟩, ⟨some 22, .faddr 3 (.t 3), none⟩, ⟨some 23, .load false 1 (.t 22), none⟩, ⟨some 24, .call (.c (.fn F.laws_eqTyS [] [])) [(.t 21), (.t 23)], none⟩, ⟨some 25, .not (.t 24), none⟩]) laws_eqTy_b6) laws_eqTy_b5)
def laws_eqTy_b9 : HCode := (.seq (.reg [⟨some 4, .mov (.c (.bool false)), none⟩]) .ret)
def laws_eqTy_b8 : HCode := (.cond (.t 19) laws_eqTy_b9 .skip)
def laws_eqTy_b3 : HCode := (.seq (.seq (.reg [⟨some 15, .faddr 2 (.t 2), none⟩, ⟨some 16, .load false 1 (.t 15), none⟩, ⟨some 17, .faddr 2 (.t 3), none⟩, ⟨some 18, .load false 1 (.t 17), none⟩, ⟨some 19, .bin .neq (.t 16) (.t 18), none⟩]) laws_eqTy_b8) laws_eqTy_b4)
def laws_eqTy_b11 : HCode := (.seq (.reg [⟨some 4, .mov (.c (.bool false)), none⟩]) .ret)
def laws_eqTy_b10 : HCode := (.cond (.t 14) laws_eqTy_b11 .skip)
def laws_eqTy_b2 : HCode := (.seq (.seq (.reg [⟨some 10, .faddr 1 (.t 2), none⟩, ⟨some 11, .load false 1 (.t 10), none⟩, ⟨some 12, .faddr 1 (.t 3), none⟩, ⟨some 13, .load false 1 (.t 12), none⟩, ⟨some 14, .bin .neq (.t 11) (.t 13), none⟩]) laws_eqTy_b10) laws_eqTy_b3)
def laws_eqTy_b13 : HCode := (.seq (.reg [⟨some 4, .mov (.c (.bool false)), none⟩]) .ret)
def laws_eqTy_b12 : HCode := (.cond (.t 9) laws_eqTy_b13 .skip)
def laws_eqTy_b1 : HCode := (.seq (.seq (.reg [⟨some 5, .faddr 0 (.t 2), none⟩, ⟨some 6, .load false 1 (.t 5), none⟩, ⟨some 7, .faddr 0 (.t 3), none⟩, ⟨some 8, .load false 1 (.t 7), none⟩, ⟨some 9, .bin .neq (.t 6) (.t 8), none⟩]) laws_eqTy_b12) laws_eqTy_b2)
def laws_eqTy_b0 : HCode := (.seq (.reg [⟨some 2, .box (.t 0), none⟩, ⟨some 3, .box (.t 1), none⟩, ⟨some 4, .mov (.c (.bool false)), none⟩]) laws_eqTy_b1)
def laws_eqTy : HFunc := { np := 2, ntmps := 26, results := [(4, none)], body := laws_eqTy_b0 }
def laws_eqTyS_b3 : HCode := (.seq (.reg [⟨some 4, .mov (.c (.bool true)), none⟩]) .ret)
def laws_eqTyS_b7 : HCode := (.reg [⟨some 15, .mov (.t 5), none⟩, ⟨some 16, .bin .add (.t 15) (.c (.int .i64 1)), none⟩, ⟨some 5, .mov (.t 16), none⟩])
def laws_eqTyS_b9 : HCode := (.seq (.reg [⟨some 4, .mov (.c (.bool false)), none⟩]) .ret)
def laws_eqTyS_b8 : HCode := (.cond (.t 26) laws_eqTyS_b9 .skip)
def laws_eqTyS_b6 : HCode := (.seq (.block 1 (.seq (.dreg (.q ⟨some 17, .mov (.t 0), none⟩ (.q ⟨some 18, .mov (.t 5), none⟩ (.q ⟨some 19, .iaddr 4 (.t 17) (.t 18), none⟩ (.q ⟨some 20, .load true 4 (.t 19), none⟩ (.q ⟨some 21, .mov (.t 1), none⟩ (.q ⟨some 22, .mov (.t 5), none⟩ (.q ⟨some 23, .iaddr 4 (.t 21) (.t 22), none⟩ (.q ⟨some 24, .load true 4 (.t 23), none⟩ (.l ⟨some 25, .call (.c (.fn F.laws_eqTy [] [])) [(.t 20), (.t 24)], none⟩ [] (.q ⟨some 26, .not (.t 25), none⟩ .done) .none)))))))))) laws_eqTyS_b8)) laws_eqTyS_b7)
def laws_eqTyS_b10 : HCode := (.cond (.t 14) .skip (.exit 0))
def laws_eqTyS_l5 : HCode := (.seq (.seq (.reg [⟨some 11, .mov (.t 5), none⟩, ⟨some 12, .mov (.t 0), none⟩, ⟨some 13, .len (.t 12), none⟩, ⟨some 14, .bin .lss (.t 11) (.t 13), none⟩]) laws_eqTyS_b10) laws_eqTyS_b6)
def laws_eqTyS_b4 : HCode := (.block 0 (.loop laws_eqTyS_l5))
def laws_eqTyS_b2 : HCode := (.seq (.seq (.reg [⟨some 5, .mov (.c (.int .i64 0)), none⟩]) laws_eqTyS_b4) laws_eqTyS_b3)
def laws_eqTyS_b12 : HCode := (.seq (.reg [⟨some 4, .mov (.c (.bool false)), none⟩]) .ret)
def laws_eqTyS_b11 : HCode := (.cond (.t 10) laws_eqTyS_b12 .skip)
def laws_eqTyS_b1 : HCode := (.seq (.seq (.reg [⟨some 6, .mov (.t 0), none⟩, ⟨some 7, .len (.t 6), none⟩, ⟨some 8, .mov (.t 1), none⟩, ⟨some 9, .len (.t 8), none⟩, ⟨some 10, .bin .neq (.t 7) (.t 9), none⟩]) laws_eqTyS_b11) laws_eqTyS_b2)
def laws_eqTyS_b0 : HCode := (.seq (.reg [⟨some 4, .mov (.c (.bool false)), none⟩]) laws_eqTyS_b1)
def laws_eqTyS : HFunc := { np := 2, ntmps := 27, results := [(4, none)], body := laws_eqTyS_b0 }
def spec_l5Num_b2 : HCode := (.seq (.dreg (.q ⟨some 10, .mov (.t 0), none⟩ (.q ⟨some 11, .bin .quo (.t 10) (.c (.int .i64 10)), none⟩ (.q ⟨some 13, .mov (.t 0), none⟩ (.q ⟨some 14, .bin .rem (.t 13) (.c (.int .i64 10)), none⟩ (.q ⟨some 15, .bin .add (.c (.int .i64 48)) (.t 14), none⟩ (.q ⟨some 16, .conv .u8 (.t 15), none⟩ (.l ⟨some 12, .call (.c (.fn F.spec_l5Num [] [])) [(.t 11)], none⟩ [⟨some 16, .conv .u8 (.t 15), none⟩, ⟨some 15, .bin .add (.c (.int .i64 48)) (.t 14), none⟩, ⟨some 14, .bin .rem (.t 13) (.c (.int .i64 10)), none⟩, ⟨some 13, .mov (.t 0), none⟩] (.l ⟨some 17, .bslice 1 1 [(.int .u8 0)] [(0, (.t 16))], none⟩ [⟨some 11, .bin .quo (.t 10) (.c (.int .i64 10)), none⟩, ⟨some 10, .mov (.t 0), none⟩] (.q ⟨some 18, .bstr (.t 17), none⟩ (.q ⟨some 19, .bin .add (.t 12) (.t 18), none⟩ (.q ⟨some 2, .mov (.t 19), none⟩ .done))) .none) (.l ⟨some 17, .bslice 1 1 [(.int .u8 0)] [(0, (.t 16))], none⟩ [⟨some 11, .bin .quo (.t 10) (.c (.int .i64 10)), none⟩, ⟨some 10, .mov (.t 0), none⟩] (.q ⟨some 18, .bstr (.t 17), none⟩ (.l ⟨some 12, .call (.c (.fn F.spec_l5Num [] [])) [(.t 11)], none⟩ [⟨some 18, .bstr (.t 17), none⟩, ⟨some 16, .conv .u8 (.t 15), none⟩, ⟨some 15, .bin .add (.c (.int .i64 48)) (.t 14), none⟩, ⟨some 14, .bin .rem (.t 13) (.c (.int .i64 10)), none⟩, ⟨some 13, .mov (.t 0), none⟩] (.q ⟨some 19, .bin .add (.t 12) (.t 18), none⟩ (.q ⟨some 2, .mov (.t 19), none⟩ .done)) .none)) .none))))))))) .ret)
def spec_l5Num_b4 : HCode := (.seq (.reg [⟨some 5, .mov (.t 0), none⟩, ⟨some 6, .bin .add (.c (.int .i64 48)) (.t 5), none⟩, ⟨some 7, .conv .u8 (.t 6), none⟩, ⟨some 8, .bslice 1 1 [(.int .u8 0)] [(0, (.t 7))], none⟩, ⟨some 9, .bstr (.t 8), none⟩, ⟨some 2, .mov (.t 9), none⟩]) .ret)
def spec_l5Num_b3 : HCode := (.cond (.t 4) spec_l5Num_b4 .skip)
def spec_l5Num_b1 : HCode := (.seq (.seq (.reg [⟨some 3, .mov (.t 0), none⟩, ⟨some 4, .bin .lss (.t 3) (.c (.int .i64 10)), none⟩]) spec_l5Num_b3) spec_l5Num_b2)
def spec_l5Num_b0 : HCode := (.seq (.reg [⟨some 2, .mov (.c (.str ⟨⟨[]⟩⟩)), none⟩]) spec_l5Num_b1)
def spec_l5Num : HFunc := { np := 1, ntmps := 20, results := [(2, none)], body := spec_l5Num_b0 }
def spec_l9Text_b2 : HCode := (.seq (.reg [⟨some 4, .mov (.c (.str ⟨⟨[]⟩⟩)), none⟩, ⟨some 5, .mov (.c (.bool false)), none⟩]) .ret)
def spec_l9Text_b4 : HCode := (.seq (.reg [⟨some 4, .mov (.c (.str ⟨⟨[]⟩⟩)), none⟩, ⟨some 5, .mov (.c (.bool false)), none⟩]) .ret)
def spec_l9Text_b7 : HCode := (.seq (.reg [⟨some 4, .mov (.c (.str ⟨⟨[73, 110, 116]⟩⟩)), none⟩, ⟨some 5, .mov (.c (.bool true)), none⟩]) .ret)
def spec_l9Text_b10 : HCode := (.seq (.reg [⟨some 4, .mov (.c (.str ⟨⟨[66, 111, 111, 108]⟩⟩)), none⟩, ⟨some 5, .mov (.c (.bool true)), none⟩]) .ret)
def spec_l9Text_b13 : HCode := (.seq (.reg [⟨some 25, .faddr 1 (.t 2), none⟩, ⟨some 26, .load false 1 (.t 25), none⟩, ⟨some 4, .mov (.t 26), none⟩, ⟨some 5, .mov (.c (.bool true)), none⟩]) .ret)
def spec_l9Text_b16 : HCode := (.seq (.reg [⟨some 36, .faddr 2 (.t 2), none⟩, ⟨some 37, .load false 1 (.t 36), none⟩, ⟨some 38, .call (.c (.fn F.spec_l5Num [] [])) [(.t 37)], none⟩, ⟨some 39, .bin .add (.c (.str ⟨⟨[116]⟩⟩)) (.t 38), none⟩, ⟨some 4, .mov (.t 39), none⟩, ⟨some 5, .mov (.c (.bool true)), none⟩]) .ret)
def spec_l9Text_b22 : HCode := (.seq (.reg [⟨some 79, .mov (.t 6), none⟩, ⟨some 80, .bin .add (.t 79) (.c (.str ⟨⟨[32, 45, 62, 32]⟩⟩)), none⟩, ⟨some 81, .mov (.t 8), none⟩, ⟨some 82, .bin .add (.t 80) (.t 81), none⟩, ⟨some 83, .mov (.t 7), none⟩, ⟨some 84, .mov (.t 83), none⟩, ⟨some 85, .mov (.t 9), some (84, true)⟩, ⟨some 86, .pick (.t 84) (.t 85) (.c (.bool false)), none⟩, ⟨some 4, .mov (.t 82), none⟩, ⟨some 5, .mov (.t 86), none⟩]) .ret)
def spec_l9Text_b24 : HCode := (.reg [⟨some 76, .mov (.t 6), none⟩, ⟨some 77, .bin .add (.c (.str ⟨⟨[40]⟩⟩)) (.t 76), none⟩, ⟨some 78, .bin .add (.t 77) (.c (.str ⟨⟨[41]⟩⟩)), none⟩, ⟨some 6, .mov (.t 78), none⟩])
def spec_l9Text_b23 : HCode := (.cond (.t 75) spec_l9Text_b24 .skip)
def spec_l9Text_b21 : HCode := (.seq (.seq (.reg [⟨some 70, .faddr 3 (.t 2), none⟩, ⟨some 71, .load false 1 (.t 70), none⟩, ⟨some 72, .iaddr 4 (.t 71) (.c (.int .i64 0)), none⟩, ⟨some 73, .faddr 0 (.t 72), none⟩, ⟨some 74, .load false 1 (.t 73), none⟩, ⟨some 75, .bin .eql (.t 74) (.c (.int .i64 4)), none⟩]) spec_l9Text_b23) spec_l9Text_b22)
def spec_l9Text_b20 : HCode := (.seq (.reg [⟨some 61, .faddr 3 (.t 2), none⟩, ⟨some 62, .load false 1 (.t 61), none⟩, ⟨some 63, .iaddr 4 (.t 62) (.c (.int .i64 1)), none⟩, ⟨some 64, .load true 4 (.t 63), none⟩, ⟨some 65, .mov (.t 1), none⟩, ⟨some 66, .bin .add (.t 65) (.c (.int .i64 1)), none⟩, ⟨some 67, .call (.c (.fn F.spec_l9Text [] [])) [(.t 64), (.t 66)], none⟩, ⟨some 60, .mov (.t 67), none⟩, ⟨some 68, .ext (.t 60) 0, none⟩, ⟨some 69, .ext (.t 60) 1, none⟩, ⟨some 8, .mov (.t 68), none⟩, ⟨some 9, .mov (.t 69), none⟩]) spec_l9Text_b21)
def spec_l9Text_b19 : HCode := (.seq (.reg [⟨some 51, .faddr 3 (.t 2), none⟩, ⟨some 52, .load false 1 (.t 51), none⟩, ⟨some 53, .iaddr 4 (.t 52) (.c (.int .i64 0)), none⟩, ⟨some 54, .load true 4 (.t 53), none⟩, ⟨some 55, .mov (.t 1), none⟩, ⟨some 56, .bin .add (.t 55) (.c (.int .i64 1)), none⟩, ⟨some 57, .call (.c (.fn F.spec_l9Text [] [])) [(.t 54), (.t 56)], none⟩, ⟨some 50, .mov (.t 57), none⟩, ⟨some 58, .ext (.t 50) 0, none⟩, ⟨some 59, .ext (.t 50) 1, none⟩, ⟨some 6, .mov (.t 58), none⟩, ⟨some 7, .mov (.t 59), none⟩]) spec_l9Text_b20)
def spec_l9Text_b18 : HCode := (.cond (.t 40) spec_l9Text_b19 .skip)
def spec_l9Text_b17 : HCode := (.seq (.reg [⟨some 41, .faddr 0 (.t 2), none⟩, ⟨some 42, .load false 1 (.t 41), none⟩, ⟨some 43, .bin .eql (.t 42) (.c (.int .i64 4)), none⟩, ⟨some 44, .mov (.t 43), none⟩, ⟨some 45, .faddr 3 (.t 2), some (44, true)⟩, ⟨some 46, .load false 1 (.t 45), some (44, true)⟩, ⟨some 47, .len (.t 46), some (44, true)⟩, ⟨some 48, .bin .eql (.t 47) (.c (.int .i64 2)), some (44, true)⟩, ⟨some 49, .pick (.t 44) (.t 48) (.c (.bool false)), none⟩, ⟨some 40, .mov (.t 49), none⟩]) spec_l9Text_b18)
def spec_l9Text_b15 : HCode := (.cond (.t 27) spec_l9Text_b16 spec_l9Text_b17)
def spec_l9Text_b14 : HCode := (.seq (.reg [⟨some 28, .faddr 0 (.t 2), none⟩, ⟨some 29, .load false 1 (.t 28), none⟩, ⟨some 30, .bin .eql (.t 29) (.c (.int .i64 5)), none⟩, ⟨some 31, .mov (.t 30), none⟩, ⟨some 32, .faddr 2 (.t 2), some (31, true)⟩, ⟨some 33, .load false 1 (.t 32), some (31, true)⟩, ⟨some 34, .bin .geq (.t 33) (.c (.int .i64 0)), some (31, true)⟩, ⟨some 35, .pick (.t 31) (.t 34) (.c (.bool false)), none⟩, ⟨some 27, .mov (.t 35), none⟩]) spec_l9Text_b15)
def spec_l9Text_b12 : HCode := (.cond (.t 21) spec_l9Text_b13 spec_l9Text_b14)
def spec_l9Text_b11 : HCode := (.seq (.reg [⟨some 22, .faddr 0 (.t 2), none⟩, ⟨some 23, .load false 1 (.t 22), none⟩, ⟨some 24, .bin .eql (.t 23) (.c (.int .i64 3)), none⟩, ⟨some 21, .mov (.t 24), none⟩]) spec_l9Text_b12)
def spec_l9Text_b9 : HCode := (.cond (.t 17) spec_l9Text_b10 spec_l9Text_b11)
def spec_l9Text_b8 : HCode := (.seq (.reg [⟨some 18, .faddr 0 (.t 2), none⟩, ⟨some 19, .load false 1 (.t 18), none⟩, ⟨some 20, .bin .eql (.t 19) (.c (.int .i64 2)), none⟩, ⟨some 17, .mov (.t 20), none⟩]) spec_l9Text_b9)
def spec_l9Text_b6 : HCode := (.cond (.t 13) spec_l9Text_b7 spec_l9Text_b8)
def spec_l9Text_b5 : HCode := (.seq (.reg [⟨some 14, .faddr 0 (.t 2), none⟩, ⟨some 15, .load false 1 (.t 14), none⟩, ⟨some 16, .bin .eql (.t 15) (.c (.int .i64 1)), none⟩, ⟨some 13, .mov (.t 16), none⟩]) spec_l9Text_b6)
def spec_l9Text_b3 : HCode := (.cond (.t 10) spec_l9Text_b4 spec_l9Text_b5)
def spec_l9Text_b1 : HCode := (.seq (.block 0 (.seq (.reg [⟨some 11, .mov (.t 1), none⟩, ⟨some 12, .bin .gtr (.t 11) (.c (.int .i64 12)), none⟩, ⟨some 10, .mov (.t 12), none⟩]) spec_l9Text_b3)) spec_l9Text_b2)
def spec_l9Text_b0 : HCode := (.seq (.reg [⟨some 2, .box (.t 0), none⟩, ⟨some 4, .mov (.c (.str ⟨⟨[]⟩⟩)), none⟩, ⟨some 5, .mov (.c (.bool false)), none⟩]) spec_l9Text_b1)
def spec_l9Text : HFunc := { np := 2, ntmps := 87, results := [(4, none), (5, none)], body := spec_l9Text_b0 }
def spec_TyText_b3 : HCode := (.seq (.reg [⟨some 12, .mov (.t 3), none⟩, ⟨some 2, .mov (.t 12), none⟩]) .ret)
def spec_TyText_b5 : HCode := (.seq (.reg [⟨some 2, .mov (.c (.str ⟨⟨[]⟩⟩)), none⟩]) .ret)
def spec_TyText_b4 : HCode := (.cond (.t 11) spec_TyText_b5 .skip)
def spec_TyText_b2 : HCode := (.seq (.seq (.reg [⟨some 10, .mov (.t 4), none⟩, ⟨some 11, .not (.t 10), none⟩]) spec_TyText_b4) spec_TyText_b3)
def spec_TyText_b1 : HCode := (.seq (.reg [⟨some 6, .load true 4 (.t 1), none⟩, ⟨some 7, .call (.c (.fn F.spec_l9Text [] [])) [(.t 6), (.c (.int .i64 1))], none⟩, ⟨some 5, .mov (.t 7), none⟩, ⟨some 8, .ext (.t 5) 0, none⟩, ⟨some 9, .ext (.t 5) 1, none⟩, ⟨some 3, .mov (.t 8), none⟩, ⟨some 4, .mov (.t 9), none⟩]) spec_TyText_b2)
def spec_TyText_b0 : HCode := (.seq (.reg [⟨some 1, .box (.t 0), none⟩, ⟨some 2, .mov (.c (.str ⟨⟨[]⟩⟩)), none⟩]) spec_TyText_b1)
def spec_TyText : HFunc := { np := 1, ntmps := 13, results := [(2, none)], body := spec_TyText_b0 }
def laws_FnExactTyText_b9 : HCode := (.seq (.reg [⟨some 2, .mov (.c (.bool true)), none⟩]) .ret)
def laws_FnExactTyText_b11 : HCode := (.seq (.reg [⟨some 2, .mov (.c (.bool false)), none⟩]) .ret)
def laws_FnExactTyText_b10 : HCode := (.cond (.t 26) laws_FnExactTyText_b11 .skip)
def laws_FnExactTyText_b8 : HCode := (.seq (.seq (.dreg (.q ⟨some 22, .load true 4 (.t 5), none⟩ (.q ⟨some 23, .load true 4 (.t 1), none⟩ (.l ⟨some 24, .call (.c (.fn F.laws_toTy [] [])) [(.t 23)], none⟩ [⟨some 22, .load true 4 (.t 5), none⟩] (.l ⟨some 25, .call (.c (.fn F.laws_eqTy [] [])) [(.t 22), (.t 24)], none⟩ [] (.q ⟨some 26, .not (.t 25), none⟩ .done) .none) .none)))) laws_FnExactTyText_b10) laws_FnExactTyText_b9)
def laws_FnExactTyText_b13 : HCode := (.seq (.reg [⟨some 2, .mov (.c (.bool false)), none⟩]) .ret)
def laws_FnExactTyText_b12 : HCode := (.cond (.t 21) laws_FnExactTyText_b13 .skip)
def laws_FnExactTyText_b7 : HCode := (.seq (.seq (.reg [⟨some 19, .mov (.t 6), none⟩, ⟨some 20, .mov (.t 4), none⟩, ⟨some 21, .bin .neq (.t 19) (.t 20), none⟩]) laws_FnExactTyText_b12) laws_FnExactTyText_b8)
def laws_FnExactTyText_b6 : HCode := (.seq (.reg [⟨some 17, .load true 4 (.t 5), none⟩, ⟨some 18, .call (.c (.fn F.impl_TyText [] [])) [(.t 17)], none⟩, ⟨some 6, .mov (.t 18), none⟩]) laws_FnExactTyText_b7)
def laws_FnExactTyText_b5 : HCode := (.seq (.reg [⟨some 15, .load true 4 (.t 1), none⟩, ⟨some 16, .call (.c (.fn F.laws_toTy [] [])) [(.t 15)], none⟩, ⟨some 5, .alloc (.agg [(.int .i64 0), (.str ⟨⟨[]⟩⟩), (.int .i64 0), .nils]), none⟩, ⟨none, .store 4 (.t 5) (.t 16), none⟩]) laws_FnExactTyText_b6)
def laws_FnExactTyText_b4 : HCode := (.seq (.reg [⟨some 12, .load true 4 (.t 1), none⟩, ⟨some 13, .call (.c (.fn F.laws_toTy [] [])) [(.t 12)], none⟩, ⟨some 14, .call (.c (.fn F.spec_TyText [] [])) [(.t 13)], none⟩, ⟨some 4, .mov (.t 14), none⟩]) laws_FnExactTyText_b5)
def laws_FnExactTyText_b15 : HCode := (.seq (.reg [⟨some 2, .mov (.c (.bool true)), none⟩]) .ret)
def laws_FnExactTyText_b14 : HCode := (.cond (.t 11) laws_FnExactTyText_b15 .skip)
def laws_FnExactTyText_b3 : HCode := (.seq (.seq (.reg [⟨some 10, .mov (.t 3), none⟩, ⟨some 11, .bin .lss (.t 10) (.c (.int .i64 0)), none⟩]) laws_FnExactTyText_b14) laws_FnExactTyText_b4)
def laws_FnExactTyText_b2 : HCode := (.seq (.reg [⟨some 7, .load true 4 (.t 1), none⟩, ⟨some 8, .mov (.t 3), none⟩, ⟨some 9, .call (.c (.fn F.laws_szTy [] [])) [(.t 7), (.t 8)], none⟩, ⟨some 3, .mov (.t 9), none⟩]) laws_FnExactTyText_b3)
def laws_FnExactTyText_b1 : HCode := (.seq (.reg [⟨some 3, .mov (.c (.int .i64 1048576)), none⟩]) laws_FnExactTyText_b2)
def laws_FnExactTyText_b0 : HCode := (.seq (.reg [⟨some 1, .box (.t 0), none⟩, ⟨some 2, .mov (.c (.bool false)), none⟩]) laws_FnExactTyText_b1)
def laws_FnExactTyText : HFunc := { np := 1, ntmps := 27, results := [(2, none)], body := laws_FnExactTyText_b0 }
end H
namespace S
noncomputable abbrev P : Program := Go.Proofs.Tryd.prog
theorem impl_tyText : stripF P F.impl_tyText = some H.impl_tyText := by kernel_rfl
theorem impl_TyText : stripF P F.impl_TyText = some H.impl_TyText := by kernel_rfl
theorem laws_szTy : stripF P F.laws_szTy = some H.laws_szTy := by kernel_rfl
theorem laws_szTyS : stripF P F.laws_szTyS = some H.laws_szTyS := by kernel_rfl
theorem laws_toTy : stripF P F.laws_toTy = some H.laws_toTy := by kernel_rfl
theorem laws_toTyS : stripF P F.laws_toTyS = some H.laws_toTyS := by kernel_rfl
theorem laws_eqTy : stripF P F.laws_eqTy = some H.laws_eqTy := by kernel_rfl
theorem laws_eqTyS : stripF P F.laws_eqTyS = some H.laws_eqTyS := by kernel_rfl
theorem spec_l5Num : stripF P F.spec_l5Num = some H.spec_l5Num := by kernel_rfl
theorem spec_l9Text : stripF P F.spec_l9Text = some H.spec_l9Text := by kernel_rfl
theorem spec_TyText : stripF P F.spec_TyText = some H.spec_TyText := by kernel_rfl
theorem laws_FnExactTyText : stripF P F.laws_FnExactTyText = some H.laws_FnExactTyText := by kernel_rfl
end S
end W
