import Derived.Test.YtnhdobhfebiggaaDoorHLVc
import Derived.KernelRfl
import Derived.Test.YtnhdobhfebiggaaDoorProg
namespace W
open Go HL
set_option maxRecDepth 1000000
namespace F
abbrev main_main : Nat := 0
abbrev gosem_cut : Nat := 1
abbrev gosem_cut_init : Nat := 2
abbrev laws_FnExactTyText : Nat := 3
abbrev laws_FnExactResText : Nat := 4
abbrev laws_szTy : Nat := 5
abbrev spec_TyText : Nat := 6
abbrev laws_toTy : Nat := 7
abbrev impl_TyText : Nat := 8
abbrev laws_eqTy : Nat := 9
abbrev laws_szRes : Nat := 10
abbrev spec_ResText : Nat := 11
abbrev laws_toRes : Nat := 12
abbrev impl_ResText : Nat := 13
abbrev laws_eqRes : Nat := 14
abbrev laws_szTyS : Nat := 15
abbrev spec_l9Text : Nat := 16
abbrev laws_toTyS : Nat := 17
abbrev impl_tyText : Nat := 18
abbrev laws_eqTyS : Nat := 19
abbrev laws_szResS : Nat := 20
abbrev spec_l13Text : Nat := 21
abbrev laws_toResS : Nat := 22
abbrev impl_resText : Nat := 23
abbrev laws_eqResS : Nat := 24
abbrev spec_l5Num : Nat := 25
abbrev strconv_Itoa : Nat := 26
abbrev spec_l13Num : Nat := 27
abbrev spec_l1In : Nat := 28
abbrev impl_in : Nat := 29
abbrev strings_HasPrefix : Nat := 30
abbrev internal_strconv_Itoa : Nat := 31
abbrev internal_stringslite_HasPrefix : Nat := 32
abbrev internal_strconv_FormatInt : Nat := 33
abbrev internal_strconv_small : Nat := 34
abbrev internal_strconv_numDigits : Nat := 35
abbrev internal_strconv_formatBase10 : Nat := 36
abbrev internal_strconv_formatBits : Nat := 37
abbrev internal_strconv_log10Pow2 : Nat := 38
abbrev math_bits_Len64 : Nat := 39
abbrev internal_strconv_bool2 : Nat := 40
abbrev internal_strconv_isPowerOfTwo : Nat := 41
abbrev math_bits_TrailingZeros : Nat := 42
abbrev math_bits_TrailingZeros32 : Nat := 43
abbrev math_bits_TrailingZeros64 : Nat := 44
abbrev runtime_boundsError_Error : Nat := 45
abbrev runtime_boundsError_RuntimeError : Nat := 46
abbrev runtime_errorString_Error : Nat := 47
abbrev runtime_errorString_RuntimeError : Nat := 48
abbrev runtime_plainError_Error : Nat := 49
abbrev runtime_plainError_RuntimeError : Nat := 50
abbrev runtime_errorAddressString_Error : Nat := 51
abbrev runtime_errorAddressString_RuntimeError : Nat := 52
abbrev runtime_TypeAssertionError_Error : Nat := 53
abbrev runtime_TypeAssertionError_RuntimeError : Nat := 54
abbrev runtime_PanicNilError_Error : Nat := 55
abbrev runtime_PanicNilError_RuntimeError : Nat := 56
abbrev internal_abi_Type_Align : Nat := 57
abbrev internal_runtime_maps_unhashableTypeError_Error : Nat := 58
abbrev internal_runtime_maps_unhashableTypeError_RuntimeError : Nat := 59
abbrev internal_abi_Kind_String : Nat := 60
abbrev var_s_door_gosem_cut_vars_holds_initialisers_alone_see_the_manifest_s_row_cutvarsword_look_11_test_files_too : Nat := 61
abbrev var_s_door_internal_strconv_uint64pow10_is_laid_by_its_own_initialiser_plain_data_look_11 : Nat := 62
abbrev var_s_door_math_bits_deBruijn32tab_is_laid_by_its_own_initialiser_plain_data_look_11 : Nat := 63
abbrev var_s_door_math_bits_deBruijn64tab_is_laid_by_its_own_initialiser_plain_data_look_11 : Nat := 64
abbrev var_s_door_the_look_of_gosem_cut_vars_went_over_the_folder_that_the_caller_named_as_the_repository_s_root_look_11 : Nat := 65
abbrev gosem_cut_vars : Nat := 66
end F
namespace H
def impl_in_b1 : HCode := (.seq (.reg [⟨some 7, .mov (.t 0), none⟩, ⟨some 8, .mov (.t 1), none⟩, ⟨some 9, .bin .geq (.t 7) (.t 8), none⟩, ⟨some 10, .mov (.t 9), none⟩, ⟨some 11, .mov (.t 0), some (10, true)⟩, ⟨some 12, .mov (.t 2), some (10, true)⟩, ⟨some 13, .bin .leq (.t 11) (.t 12), some (10, true)⟩, ⟨some 14, .pick (.t 10) (.t 13) (.c (.bool false)), none⟩, ⟨some 6, .mov (.t 14), none⟩]) .ret)
def impl_in_b0 : HCode := (.seq (.reg [⟨some 6, .mov (.c (.bool false)), none⟩]) impl_in_b1)
def impl_in : HFunc := { np := 3, ntmps := 15, results := [(6, none)], body := impl_in_b0 }
def internal_stringslite_HasPrefix_b1 : HCode := (.seq (.reg [⟨some 5, .mov (.t 0), none⟩, ⟨some 6, .slen (.t 5), none⟩, ⟨some 7, .mov (.t 1), none⟩, ⟨some 8, .slen (.t 7), none⟩, ⟨some 9, .bin .geq (.t 6) (.t 8), none⟩, ⟨some 10, .mov (.t 9), none⟩, ⟨some 11, .mov (.t 0), some (10, true)⟩, ⟨some 12, .mov (.t 1), some (10, true)⟩, ⟨some 13, .slen (.t 12), some (10, true)⟩, ⟨some 14, .substr (.t 11) none (some (.t 13)), some (10, true)⟩, ⟨some 15, .mov (.t 1), some (10, true)⟩, ⟨some 16, .bin .eql (.t 14) (.t 15), some (10, true)⟩, ⟨some 17, .pick (.t 10) (.t 16) (.c (.bool false)), none⟩, ⟨some 4, .mov (.t 17), none⟩]) .ret)
def internal_stringslite_HasPrefix_b0 : HCode := (.seq (.reg [⟨some 4, .mov (.c (.bool false)), none⟩]) internal_stringslite_HasPrefix_b1)
def internal_stringslite_HasPrefix : HFunc := { np := 2, ntmps := 18, results := [(4, none)], body := internal_stringslite_HasPrefix_b0 }
def strings_HasPrefix_b1 : HCode := (.seq (.reg [⟨some 5, .mov (.t 0), none⟩, ⟨some 6, .mov (.t 1), none⟩, ⟨some 7, .call (.c (.fn F.internal_stringslite_HasPrefix [] [])) [(.t 5), (.t 6)], none⟩, ⟨some 4, .mov (.t 7), none⟩]) .ret)
def strings_HasPrefix_b0 : HCode := (.seq (.reg [⟨some 4, .mov (.c (.bool false)), none⟩]) strings_HasPrefix_b1)
def strings_HasPrefix : HFunc := { np := 2, ntmps := 8, results := [(4, none)], body := strings_HasPrefix_b0 }
def impl_resText_b3 : HCode := (.seq (.reg [⟨some 4, .mov (.c (.str ⟨⟨[]⟩⟩)), none⟩, ⟨some 5, .mov (.c (.bool false)), none⟩]) .ret)
def impl_resText_b6 : HCode := (.seq (.dreg (.q ⟨some 17, .faddr 2 (.t 2), none⟩ (.q ⟨some 18, .load false 1 (.t 17), none⟩ (.q ⟨some 20, .faddr 2 (.t 2), none⟩ (.q ⟨some 21, .load false 1 (.t 20), none⟩ (.l ⟨some 19, .call (.c (.fn F.strconv_Itoa [] [])) [(.t 18)], none⟩ [⟨some 21, .load false 1 (.t 20), none⟩, ⟨some 20, .faddr 2 (.t 2), none⟩] (.l ⟨some 22, .call (.c (.fn F.impl_in [] [])) [(.t 21), (.c (.int .i64 (-999999999))), (.c (.int .i64 999999999))], none⟩ [] (.q ⟨some 4, .mov (.t 19), none⟩ (.q ⟨some 5, .mov (.t 22), none⟩ .done)) .none) .none)))))) .ret)
def impl_resText_b9 : HCode := (.seq (.reg [⟨some 4, .mov (.c (.str ⟨⟨[60, 102, 117, 110, 99, 116, 105, 111, 110, 62]⟩⟩)), none⟩, ⟨some 5, .mov (.c (.bool true)), none⟩]) .ret)
def impl_resText_b12 : HCode := (.seq (.reg [⟨some 4, .mov (.c (.str ⟨⟨[60, 102, 97, 105, 108, 62]⟩⟩)), none⟩, ⟨some 5, .mov (.c (.bool true)), none⟩]) .ret)
def impl_resText_b15 : HCode := (.seq (.reg [⟨some 4, .mov (.c (.str ⟨⟨[60, 104, 111, 108, 101, 62]⟩⟩)), none⟩, ⟨some 5, .mov (.c (.bool true)), none⟩]) .ret)
def impl_resText_b18 : HCode := (.seq (.reg [⟨some 4, .mov (.c (.str ⟨⟨[60, 102, 117, 101, 108, 62]⟩⟩)), none⟩, ⟨some 5, .mov (.c (.bool true)), none⟩]) .ret)
def impl_resText_b21 : HCode := (.seq (.reg [⟨some 4, .mov (.c (.str ⟨⟨[46, 46, 46]⟩⟩)), none⟩, ⟨some 5, .mov (.c (.bool true)), none⟩]) .ret)
def impl_resText_b26 : HCode := (.seq (.reg [⟨some 69, .mov (.t 6), none⟩, ⟨some 4, .mov (.t 69), none⟩, ⟨some 5, .mov (.c (.bool true)), none⟩]) .ret)
def impl_resText_b31 : HCode := (.reg [⟨some 68, .bin .add (.t 40) (.c (.int .i64 1)), none⟩, ⟨some 40, .mov (.t 68), none⟩])
def impl_resText_b35 : HCode := (.reg [⟨some 64, .mov (.t 6), none⟩, ⟨some 65, .mov (.t 9), none⟩, ⟨some 66, .bin .add (.c (.str ⟨⟨[32]⟩⟩)) (.t 65), none⟩, ⟨some 67, .bin .add (.t 64) (.t 66), none⟩, ⟨some 6, .mov (.t 67), none⟩])
def impl_resText_b37 : HCode := (.reg [⟨some 61, .mov (.t 9), none⟩, ⟨some 62, .bin .add (.c (.str ⟨⟨[40]⟩⟩)) (.t 61), none⟩, ⟨some 63, .bin .add (.t 62) (.c (.str ⟨⟨[41]⟩⟩)), none⟩, ⟨some 9, .mov (.t 63), none⟩])
def impl_resText_b36 : HCode := (.cond (.t 60) impl_resText_b37 .skip)
def impl_resText_b34 : HCode := (.seq (.seq (.reg [⟨some 53, .faddr 3 (.t 8), none⟩, ⟨some 54, .load false 1 (.t 53), none⟩, ⟨some 55, .len (.t 54), none⟩, ⟨some 56, .bin .gtr (.t 55) (.c (.int .i64 0)), none⟩, ⟨some 57, .mov (.t 56), none⟩, ⟨some 58, .mov (.t 9), some (57, false)⟩, ⟨some 59, .call (.c (.fn F.strings_HasPrefix [] [])) [(.t 58), (.c (.str ⟨⟨[45]⟩⟩))], some (57, false)⟩, ⟨some 60, .pick (.t 57) (.c (.bool true)) (.t 59), none⟩]) impl_resText_b36) impl_resText_b35)
def impl_resText_b39 : HCode := (.seq (.reg [⟨some 4, .mov (.c (.str ⟨⟨[]⟩⟩)), none⟩, ⟨some 5, .mov (.c (.bool false)), none⟩]) .ret)
def impl_resText_b38 : HCode := (.cond (.t 52) impl_resText_b39 .skip)
def impl_resText_b33 : HCode := (.seq (.seq (.reg [⟨some 51, .mov (.t 10), none⟩, ⟨some 52, .not (.t 51), none⟩]) impl_resText_b38) impl_resText_b34)
def impl_resText_b32 : HCode := (.seq (.reg [⟨some 45, .load true 4 (.t 8), none⟩, ⟨some 46, .mov (.t 1), none⟩, ⟨some 47, .bin .add (.t 46) (.c (.int .i64 1)), none⟩, ⟨some 48, .call (.c (.fn F.impl_resText [] [])) [(.t 45), (.t 47)], none⟩, ⟨some 44, .mov (.t 48), none⟩, ⟨some 49, .ext (.t 44) 0, none⟩, ⟨some 50, .ext (.t 44) 1, none⟩, ⟨some 9, .mov (.t 49), none⟩, ⟨some 10, .mov (.t 50), none⟩]) impl_resText_b33)
def impl_resText_b30 : HCode := (.seq (.block 2 (.seq (.reg [⟨some 42, .iaddr 4 (.t 38) (.t 40), none⟩, ⟨some 43, .load true 4 (.t 42), none⟩, ⟨some 8, .alloc (.agg [(.int .i64 0), (.str ⟨⟨[]⟩⟩), (.int .i64 0), .nils]), none⟩, ⟨none, .store 4 (.t 8) (.t 43), none⟩]) impl_resText_b32)) impl_resText_b31)
def impl_resText_b29 : HCode := (.seq (.cond (.t 41) .skip (.exit 1)) impl_resText_b30)
def impl_resText_l28 : HCode := (.seq (.reg [⟨some 41, .bin .lss (.t 40) (.t 39), none⟩]) impl_resText_b29)
def impl_resText_b27 : HCode := (.block 1 (.loop impl_resText_l28))
def impl_resText_b25 : HCode := (.seq (.seq (.reg [⟨some 37, .faddr 3 (.t 2), none⟩, ⟨some 38, .load false 1 (.t 37), none⟩, ⟨some 39, .len (.t 38), none⟩, ⟨some 40, .mov (.c (.int .i64 0)), none⟩]) impl_resText_b27) impl_resText_b26)
def impl_resText_b24 : HCode := (.seq (.reg [⟨some 35, .faddr 1 (.t 2), none⟩, ⟨some 36, .load false 1 (.t 35), none⟩, ⟨some 6, .mov (.t 36), none⟩]) impl_resText_b25)
def impl_resText_b23 : HCode := (.cond (.t 33) impl_resText_b24 .skip)
def impl_resText_b22 : HCode := (.seq (.reg [⟨some 34, .bin .eql (.t 14) (.c (.int .i64 2)), none⟩, ⟨some 33, .mov (.t 34), none⟩]) impl_resText_b23)
def impl_resText_b20 : HCode := (.cond (.t 31) impl_resText_b21 impl_resText_b22)
def impl_resText_b19 : HCode := (.seq (.reg [⟨some 32, .bin .eql (.t 14) (.c (.int .i64 7)), none⟩, ⟨some 31, .mov (.t 32), none⟩]) impl_resText_b20)
def impl_resText_b17 : HCode := (.cond (.t 29) impl_resText_b18 impl_resText_b19)
def impl_resText_b16 : HCode := (.seq (.reg [⟨some 30, .bin .eql (.t 14) (.c (.int .i64 6)), none⟩, ⟨some 29, .mov (.t 30), none⟩]) impl_resText_b17)
def impl_resText_b14 : HCode := (.cond (.t 27) impl_resText_b15 impl_resText_b16)
def impl_resText_b13 : HCode := (.seq (.reg [⟨some 28, .bin .eql (.t 14) (.c (.int .i64 5)), none⟩, ⟨some 27, .mov (.t 28), none⟩]) impl_resText_b14)
def impl_resText_b11 : HCode := (.cond (.t 25) impl_resText_b12 impl_resText_b13)
def impl_resText_b10 : HCode := (.seq (.reg [⟨some 26, .bin .eql (.t 14) (.c (.int .i64 4)), none⟩, ⟨some 25, .mov (.t 26), none⟩]) impl_resText_b11)
def impl_resText_b8 : HCode := (.cond (.t 23) impl_resText_b9 impl_resText_b10)
def impl_resText_b7 : HCode := (.seq (.reg [⟨some 24, .bin .eql (.t 14) (.c (.int .i64 3)), none⟩, ⟨some 23, .mov (.t 24), none⟩]) impl_resText_b8)
def impl_resText_b5 : HCode := (.cond (.t 15) impl_resText_b6 impl_resText_b7)
def impl_resText_b4 : HCode := (.block 0 (.seq (.reg [⟨some 16, .bin .eql (.t 14) (.c (.int .i64 1)), none⟩, ⟨some 15, .mov (.t 16), none⟩]) impl_resText_b5))
def impl_resText_b2 : HCode := (.seq (.seq (.reg [⟨some 13, .faddr 0 (.t 2), none⟩, ⟨some 14, .load false 1 (.t 13), none⟩]) impl_resText_b4) impl_resText_b3)
def impl_resText_b41 : HCode := (.seq (.reg [⟨some 4, .mov (.c (.str ⟨⟨[]⟩⟩)), none⟩, ⟨some 5, .mov (.c (.bool false)), none⟩]) .ret)
def impl_resText_b40 : HCode := (.cond (.t 12) impl_resText_b41 .skip)
def impl_resText_b1 : HCode := (.seq (.seq (.reg [⟨some 11, .mov (.t 1), none⟩, ⟨some 12, .bin .gtr (.t 11) (.c (.int .i64 6)), none⟩]) impl_resText_b40) impl_resText_b2)
def impl_resText_b0 : HCode := (.seq (.reg [⟨some 2, .box (.t 0), none⟩, ⟨some 4, .mov (.c (.str ⟨⟨[]⟩⟩)), none⟩, ⟨some 5, .mov (.c (.bool false)), none⟩]) impl_resText_b1)
def impl_resText : HFunc := { np := 2, ntmps := 70, results := [(4, none), (5, none)], body := impl_resText_b0 }
def impl_ResText_b3 : HCode := (.seq (.reg [⟨some 12, .mov (.t 3), none⟩, ⟨some 2, .mov (.t 12), none⟩]) .ret)
def impl_ResText_b5 : HCode := (.seq (.reg [⟨some 2, .mov (.c (.str ⟨⟨[]⟩⟩)), none⟩]) .ret)
def impl_ResText_b4 : HCode := (.cond (.t 11) impl_ResText_b5 .skip)
def impl_ResText_b2 : HCode := (.seq (.seq (.reg [⟨some 10, .mov (.t 4), none⟩, ⟨some 11, .not (.t 10), none⟩]) impl_ResText_b4) impl_ResText_b3)
def impl_ResText_b1 : HCode := (.seq (.reg [⟨some 6, .load true 4 (.t 1), none⟩, ⟨some 7, .call (.c (.fn F.impl_resText [] [])) [(.t 6), (.c (.int .i64 1))], none⟩, ⟨some 5, .mov (.t 7), none⟩, ⟨some 8, .ext (.t 5) 0, none⟩, ⟨some 9, .ext (.t 5) 1, none⟩, ⟨some 3, .mov (.t 8), none⟩, ⟨some 4, .mov (.t 9), none⟩]) impl_ResText_b2)
def impl_ResText_b0 : HCode := (.seq (.reg [⟨some 1, .box (.t 0), none⟩, ⟨some 2, .mov (.c (.str ⟨⟨[]⟩⟩)), none⟩]) impl_ResText_b1)
def impl_ResText : HFunc := { np := 1, ntmps := 13, results := [(2, none)], body := impl_ResText_b0 }
def laws_szRes_b5 : HCode := (.seq (.reg [⟨some 18, .mov (.t 1), none⟩, ⟨some 4, .mov (.t 18), none⟩]) .ret)
def laws_szRes_b7 : HCode := (.seq (.reg [⟨some 4, .mov (.c (.int .i64 (-1))), none⟩]) .ret)
def laws_szRes_b6 : HCode := (.cond (.t 17) laws_szRes_b7 .skip)
def laws_szRes_b4 : HCode := (.seq (.seq (.reg [⟨some 16, .mov (.t 1), none⟩, ⟨some 17, .bin .lss (.t 16) (.c (.int .i64 0)), none⟩]) laws_szRes_b6) laws_szRes_b5)
def laws_szRes_b3 : HCode := (.seq (.reg [⟨some 12, .faddr 3 (.t 2), none⟩, ⟨some 13, .load false 1 (.t 12), none⟩, ⟨some 14, .mov (.t 1), none⟩, ⟨some 15, .call (.c (.fn F.laws_szResS [] [])) [(.t 13), (.t 14)], none⟩, ⟨some 1, .mov (.t 15), none⟩]) laws_szRes_b4)
def laws_szRes_b9 : HCode := (.seq (.reg [⟨some 4, .mov (.c (.int .i64 (-1))), none⟩]) .ret)
def laws_szRes_b8 : HCode := (.cond (.t 11) laws_szRes_b9 .skip)
def laws_szRes_b2 : HCode := (.seq (.seq (.reg [⟨some 10, .mov (.t 1), none⟩, ⟨some 11, .bin .lss (.t 10) (.c (.int .i64 0)), none⟩]) laws_szRes_b8) laws_szRes_b3)
def laws_szRes_b1 : HCode := (.seq (.reg [⟨some 5, .mov (.t 1), none⟩, ⟨some 6, .faddr 1 (.t 2), none⟩, ⟨some 7, .load false 1 (.t 6), none⟩, ⟨some 8, .slen (.t 7), none⟩, ⟨some 9, .bin .sub (.t 5) (.t 8), none⟩, ⟨some 1, .mov (.t 9), none⟩]) laws_szRes_b2)
def laws_szRes_b0 : HCode := (.seq (.reg [⟨some 2, .box (.t 0), none⟩, ⟨some 4, .mov (.c (.int .i64 0)), none⟩]) laws_szRes_b1)
def laws_szRes : HFunc := { np := 2, ntmps := 19, results := [(4, none)], body := laws_szRes_b0 }
def laws_szResS_b4 : HCode := (.seq (.reg [⟨some 26, .mov (.t 1), none⟩, ⟨some 4, .mov (.t 26), none⟩]) .ret)
def laws_szResS_b8 : HCode := (.reg [⟨some 16, .mov (.t 5), none⟩, ⟨some 17, .bin .add (.t 16) (.c (.int .i64 1)), none⟩, ⟨some 5, .mov (.t 17), none⟩])
def laws_szResS_b11 : HCode := (.seq (.reg [⟨some 4, .mov (.c (.int .i64 (-1))), none⟩]) .ret)
def laws_szResS_b10 : HCode := (.cond (.t 25) laws_szResS_b11 .skip)
def laws_szResS_b9 : HCode := (.seq (.reg [⟨some 24, .mov (.t 1), none⟩, ⟨some 25, .bin .lss (.t 24) (.c (.int .i64 0)), none⟩]) laws_szResS_b10)
def laws_szResS_b7 : HCode := (.seq (.block 1 (.seq (.reg [⟨some 18, .mov (.t 0), none⟩, ⟨some 19, .mov (.t 5), none⟩, ⟨some 20, .iaddr 4 (.t 18) (.t 19), none⟩, ⟨some 21, .load true 4 (.t 20), none⟩, ⟨some 22, .mov (.t 1), none⟩, ⟨some 23, .call (.c (.fn F.laws_szRes [] [])) [(.t 21), (.t 22)], none⟩, ⟨some 1, .mov (.t 23), none⟩]) laws_szResS_b9)) laws_szResS_b8)
def laws_szResS_b12 : HCode := (.cond (.t 15) .skip (.exit 0))
def laws_szResS_l6 : HCode := (.seq (.seq (.reg [⟨some 12, .mov (.t 5), none⟩, ⟨some 13, .mov (.t 0), none⟩, ⟨some 14, .len (.t 13), none⟩, ⟨some 15, .bin .lss (.t 12) (.t 14), none⟩]) laws_szResS_b12) laws_szResS_b7)
def laws_szResS_b5 : HCode := (.block 0 (.loop laws_szResS_l6))
def laws_szResS_b3 : HCode := (.seq (.seq (.reg [⟨some 5, .mov (.c (.int .i64 0)), none⟩]) laws_szResS_b5) laws_szResS_b4)
def laws_szResS_b14 : HCode := (.seq (.reg [⟨some 4, .mov (.c (.int .i64 (-1))), none⟩]) .ret)
def laws_szResS_b13 : HCode := (.cond (.t 11) laws_szResS_b14 .skip)
def laws_szResS_b2 : HCode := (.seq (.seq (.reg [⟨some 10, .mov (.t 1), none⟩, ⟨some 11, .bin .lss (.t 10) (.c (.int .i64 0)), none⟩]) laws_szResS_b13) laws_szResS_b3)
def laws_szResS_b1 : HCode := (.seq (.reg [⟨some 6, .mov (.t 1), none⟩, ⟨some 7, .mov (.t 0), none⟩, ⟨some 8, .len (.t 7), none⟩, ⟨some 9, .bin .sub (.t 6) (.t 8), none⟩, ⟨some 1, .mov (.t 9), none⟩]) laws_szResS_b2)
def laws_szResS_b0 : HCode := (.seq (.reg [⟨some 4, .mov (.c (.int .i64 0)), none⟩]) laws_szResS_b1)
def laws_szResS : HFunc := { np := 2, ntmps := 27, results := [(4, none)], body := laws_szResS_b0 }
def laws_eqRes_b5 : HCode := (.seq (.reg [⟨some 4, .mov (.c (.bool true)), none⟩]) .ret)
def laws_eqRes_b7 : HCode := (.seq (.reg [⟨some 4, .mov (.c (.bool false)), none⟩]) .ret)
def laws_eqRes_b6 : HCode := (.cond (.t 25) laws_eqRes_b7 .skip)
def laws_eqRes_b4 : HCode := (.seq (.seq (.reg [⟨some 20, .faddr 3 (.t 2), none⟩, ⟨some 21, .load false 1 (.t 20), none⟩, ⟨some 22, .faddr 3 (.t 3), none⟩, ⟨some 23, .load false 1 (.t 22), none⟩, ⟨some 24, .call (.c (.fn F.laws_eqResS [] [])) [(.t 21), (.t 23)], none⟩, ⟨some 25, .not (.t 24), none⟩]) laws_eqRes_b6) laws_eqRes_b5)
def laws_eqRes_b9 : HCode := (.seq (.reg [⟨some 4, .mov (.c (.bool false)), none⟩]) .ret)
def laws_eqRes_b8 : HCode := (.cond (.t 19) laws_eqRes_b9 .skip)
def laws_eqRes_b3 : HCode := (.seq (.seq (.reg [⟨some 15, .faddr 2 (.t 2), none⟩, ⟨some 16, .load false 1 (.t 15), none⟩, ⟨some 17, .faddr 2 (.t 3), none⟩, ⟨some 18, .load false 1 (.t 17), none⟩, ⟨some 19, .bin .neq (.t 16) (.t 18), none⟩]) laws_eqRes_b8) laws_eqRes_b4)
def laws_eqRes_b11 : HCode := (.seq (.reg [⟨some 4, .mov (.c (.bool false)), none⟩]) .ret)
def laws_eqRes_b10 : HCode := (.cond (.t 14) laws_eqRes_b11 .skip)
def laws_eqRes_b2 : HCode := (.seq (.seq (.reg [⟨some 10, .faddr 1 (.t 2), none⟩, ⟨some 11, .load false 1 (.t 10), none⟩, ⟨some 12, .faddr 1 (.t 3), none⟩, ⟨some 13, .load false 1 (.t 12), none⟩, ⟨some 14, .bin .neq (.t 11) (.t 13), none⟩]) laws_eqRes_b10) laws_eqRes_b3)
def laws_eqRes_b13 : HCode := (.seq (.reg [⟨some 4, .mov (.c (.bool false)), none⟩]) .ret)
def laws_eqRes_b12 : HCode := (.cond (.t 9) laws_eqRes_b13 .skip)
def laws_eqRes_b1 : HCode := (.seq (.seq (.reg [⟨some 5, .faddr 0 (.t 2), none⟩, ⟨some 6, .load false 1 (.t 5), none⟩, ⟨some 7, .faddr 0 (.t 3), none⟩, ⟨some 8, .load false 1 (.t 7), none⟩, ⟨some 9, .bin .neq (.t 6) (.t 8), none⟩]) laws_eqRes_b12) laws_eqRes_b2)
def laws_eqRes_b0 : HCode := (.seq (.reg [⟨some 2, .box (.t 0), none⟩, ⟨some 3, .box (.t 1), none⟩, ⟨some 4, .mov (.c (.bool false)), none⟩]) laws_eqRes_b1)
def laws_eqRes : HFunc := { np := 2, ntmps := 26, results := [(4, none)], body := laws_eqRes_b0 }
def laws_eqResS_b3 : HCode := (.seq (.reg [⟨some 4, .mov (.c (.bool true)), none⟩]) .ret)
def laws_eqResS_b7 : HCode := (.reg [⟨some 15, .mov (.t 5), none⟩, ⟨some 16, .bin .add (.t 15) (.c (.int .i64 1)), none⟩, ⟨some 5, .mov (.t 16), none⟩])
def laws_eqResS_b9 : HCode := (.seq (.reg [⟨some 4, .mov (.c (.bool false)), none⟩]) .ret)
def laws_eqResS_b8 : HCode := (.cond (.t 26) laws_eqResS_b9 .skip)
def laws_eqResS_b6 : HCode := (.seq (.block 1 (.seq (.dreg (.q ⟨some 17, .mov (.t 0), none⟩ (.q ⟨some 18, .mov (.t 5), none⟩ (.q ⟨some 19, .iaddr 4 (.t 17) (.t 18), none⟩ (.q ⟨some 20, .load true 4 (.t 19), none⟩ (.q ⟨some 21, .mov (.t 1), none⟩ (.q ⟨some 22, .mov (.t 5), none⟩ (.q ⟨some 23, .iaddr 4 (.t 21) (.t 22), none⟩ (.q ⟨some 24, .load true 4 (.t 23), none⟩ (.l ⟨some 25, .call (.c (.fn F.laws_eqRes [] [])) [(.t 20), (.t 24)], none⟩ [] (.q ⟨some 26, .not (.t 25), none⟩ .done) .none)))))))))) laws_eqResS_b8)) laws_eqResS_b7)
def laws_eqResS_b10 : HCode := (.cond (.t 14) .skip (.exit 0))
def laws_eqResS_l5 : HCode := (.seq (.seq (.reg [⟨some 11, .mov (.t 5), none⟩, ⟨some 12, .mov (.t 0), none⟩, ⟨some 13, .len (.t 12), none⟩, ⟨some 14, .bin .lss (.t 11) (.t 13), none⟩]) laws_eqResS_b10) laws_eqResS_b6)
def laws_eqResS_b4 : HCode := (.block 0 (.loop laws_eqResS_l5))
def laws_eqResS_b2 : HCode := (.seq (.seq (.reg [⟨some 5, .mov (.c (.int .i64 0)), none⟩]) laws_eqResS_b4) laws_eqResS_b3)
def laws_eqResS_b12 : HCode := (.seq (.reg [⟨some 4, .mov (.c (.bool false)), none⟩]) .ret)
def laws_eqResS_b11 : HCode := (.cond (.t 10) laws_eqResS_b12 .skip)
def laws_eqResS_b1 : HCode := (.seq (.seq (.reg [⟨some 6, .mov (.t 0), none⟩, ⟨some 7, .len (.t 6), none⟩, ⟨some 8, .mov (.t 1), none⟩, ⟨some 9, .len (.t 8), none⟩, ⟨some 10, .bin .neq (.t 7) (.t 9), none⟩]) laws_eqResS_b11) laws_eqResS_b2)
def laws_eqResS_b0 : HCode := (.seq (.reg [⟨some 4, .mov (.c (.bool false)), none⟩]) laws_eqResS_b1)
def laws_eqResS : HFunc := { np := 2, ntmps := 27, results := [(4, none)], body := laws_eqResS_b0 }
def spec_l1In_b1 : HCode := (.seq (.reg [⟨some 7, .mov (.t 0), none⟩, ⟨some 8, .mov (.t 1), none⟩, ⟨some 9, .bin .geq (.t 7) (.t 8), none⟩, ⟨some 10, .mov (.t 9), none⟩, ⟨some 11, .mov (.t 0), some (10, true)⟩, ⟨some 12, .mov (.t 2), some (10, true)⟩, ⟨some 13, .bin .leq (.t 11) (.t 12), some (10, true)⟩, ⟨some 14, .pick (.t 10) (.t 13) (.c (.bool false)), none⟩, ⟨some 6, .mov (.t 14), none⟩]) .ret)
def spec_l1In_b0 : HCode := (.seq (.reg [⟨some 6, .mov (.c (.bool false)), none⟩]) spec_l1In_b1)
def spec_l1In : HFunc := { np := 3, ntmps := 15, results := [(6, none)], body := spec_l1In_b0 }
def spec_l5Num_b2 : HCode := (.seq (.dreg (.q ⟨some 10, .mov (.t 0), none⟩ (.q ⟨some 11, .bin .quo (.t 10) (.c (.int .i64 10)), none⟩ (.q ⟨some 13, .mov (.t 0), none⟩ (.q ⟨some 14, .bin .rem (.t 13) (.c (.int .i64 10)), none⟩ (.q ⟨some 15, .bin .add (.c (.int .i64 48)) (.t 14), none⟩ (.q ⟨some 16, .conv .u8 (.t 15), none⟩ (.l ⟨some 12, .call (.c (.fn F.spec_l5Num [] [])) [(.t 11)], none⟩ [⟨some 16, .conv .u8 (.t 15), none⟩, ⟨some 15, .bin .add (.c (.int .i64 48)) (.t 14), none⟩, ⟨some 14, .bin .rem (.t 13) (.c (.int .i64 10)), none⟩, ⟨some 13, .mov (.t 0), none⟩] (.l ⟨some 17, .bslice 1 1 [(.int .u8 0)] [(0, (.t 16))], none⟩ [⟨some 11, .bin .quo (.t 10) (.c (.int .i64 10)), none⟩, ⟨some 10, .mov (.t 0), none⟩] (.q ⟨some 18, .bstr (.t 17), none⟩ (.q ⟨some 19, .bin .add (.t 12) (.t 18), none⟩ (.q ⟨some 2, .mov (.t 19), none⟩ .done))) .none) (.l ⟨some 17, .bslice 1 1 [(.int .u8 0)] [(0, (.t 16))], none⟩ [⟨some 11, .bin .quo (.t 10) (.c (.int .i64 10)), none⟩, ⟨some 10, .mov (.t 0), none⟩] (.q ⟨some 18, .bstr (.t 17), none⟩ (.l ⟨some 12, .call (.c (.fn F.spec_l5Num [] [])) [(.t 11)], none⟩ [⟨some 18, .bstr (.t 17), none⟩, ⟨some 16, .conv .u8 (.t 15), none⟩, ⟨some 15, .bin .add (.c (.int .i64 48)) (.t 14), none⟩, ⟨some 14, .bin .rem (.t 13) (.c (.int .i64 10)), none⟩, ⟨some 13, .mov (.t 0), none⟩] (.q ⟨some 19, .bin .add (.t 12) (.t 18), none⟩ (.q ⟨some 2, .mov (.t 19), none⟩ .done)) .none)) .none))))))))) .ret)
def spec_l5Num_b4 : HCode := (.seq (.reg [⟨some 5, .mov (.t 0), none⟩, ⟨some 6, .bin .add (.c (.int .i64 48)) (.t 5), none⟩, ⟨some 7, .conv .u8 (.t 6), none⟩, ⟨some 8, .bslice 1 1 [(.int .u8 0)] [(0, (.t 7))], none⟩, ⟨some 9, .bstr (.t 8), none⟩, ⟨some 2, .mov (.t 9), none⟩]) .ret)
def spec_l5Num_b3 : HCode := (.cond (.t 4) spec_l5Num_b4 .skip)
def spec_l5Num_b1 : HCode := (.seq (.seq (.reg [⟨some 3, .mov (.t 0), none⟩, ⟨some 4, .bin .lss (.t 3) (.c (.int .i64 10)), none⟩]) spec_l5Num_b3) spec_l5Num_b2)
def spec_l5Num_b0 : HCode := (.seq (.reg [⟨some 2, .mov (.c (.str ⟨⟨[]⟩⟩)), none⟩]) spec_l5Num_b1)
def spec_l5Num : HFunc := { np := 1, ntmps := 20, results := [(2, none)], body := spec_l5Num_b0 }
def spec_l13Num_b3 : HCode := (.seq (.reg [⟨some 15, .mov (.t 0), none⟩, ⟨some 16, .call (.c (.fn F.spec_l5Num [] [])) [(.t 15)], none⟩, ⟨some 2, .mov (.t 16), none⟩]) .ret)
def spec_l13Num_b5 : HCode := (.seq (.reg [⟨some 2, .mov (.c (.str ⟨⟨[45]⟩⟩)), none⟩]) .ret)
def spec_l13Num_b4 : HCode := (.cond (.t 14) spec_l13Num_b5 .skip)
def spec_l13Num_b2 : HCode := (.seq (.seq (.reg [⟨some 13, .mov (.t 0), none⟩, ⟨some 14, .bin .lss (.t 13) (.c (.int .i64 0)), none⟩]) spec_l13Num_b4) spec_l13Num_b3)
def spec_l13Num_b7 : HCode := (.seq (.reg [⟨some 9, .mov (.t 0), none⟩, ⟨some 10, .neg (.t 9), none⟩, ⟨some 11, .call (.c (.fn F.spec_l5Num [] [])) [(.t 10)], none⟩, ⟨some 12, .bin .add (.c (.str ⟨⟨[45]⟩⟩)) (.t 11), none⟩, ⟨some 2, .mov (.t 12), none⟩]) .ret)
def spec_l13Num_b6 : HCode := (.cond (.t 8) spec_l13Num_b7 .skip)
def spec_l13Num_b1 : HCode := (.seq (.seq (.reg [⟨some 3, .mov (.t 0), none⟩, ⟨some 4, .bin .lss (.t 3) (.c (.int .i64 0)), none⟩, ⟨some 5, .mov (.t 4), none⟩, ⟨some 6, .mov (.t 0), some (5, true)⟩, ⟨some 7, .bin .gtr (.t 6) (.c (.int .i64 (-1000000000))), some (5, true)⟩, ⟨some 8, .pick (.t 5) (.t 7) (.c (.bool false)), none⟩]) spec_l13Num_b6) spec_l13Num_b2)
def spec_l13Num_b0 : HCode := (.seq (.reg [⟨some 2, .mov (.c (.str ⟨⟨[]⟩⟩)), none⟩]) spec_l13Num_b1)
def spec_l13Num : HFunc := { np := 1, ntmps := 17, results := [(2, none)], body := spec_l13Num_b0 }
def spec_l13Text_b3 : HCode := (.seq (.reg [⟨some 4, .mov (.c (.str ⟨⟨[]⟩⟩)), none⟩, ⟨some 5, .mov (.c (.bool false)), none⟩]) .ret)
def spec_l13Text_b6 : HCode := (.seq (.dreg (.q ⟨some 16, .faddr 2 (.t 2), none⟩ (.q ⟨some 17, .load false 1 (.t 16), none⟩ (.q ⟨some 19, .faddr 2 (.t 2), none⟩ (.q ⟨some 20, .load false 1 (.t 19), none⟩ (.l ⟨some 18, .call (.c (.fn F.spec_l13Num [] [])) [(.t 17)], none⟩ [⟨some 20, .load false 1 (.t 19), none⟩, ⟨some 19, .faddr 2 (.t 2), none⟩] (.l ⟨some 21, .call (.c (.fn F.spec_l1In [] [])) [(.t 20), (.c (.int .i64 (-999999999))), (.c (.int .i64 999999999))], none⟩ [] (.q ⟨some 4, .mov (.t 18), none⟩ (.q ⟨some 5, .mov (.t 21), none⟩ .done)) .none) .none)))))) .ret)
def spec_l13Text_b9 : HCode := (.seq (.reg [⟨some 4, .mov (.c (.str ⟨⟨[60, 102, 117, 110, 99, 116, 105, 111, 110, 62]⟩⟩)), none⟩, ⟨some 5, .mov (.c (.bool true)), none⟩]) .ret)
def spec_l13Text_b12 : HCode := (.seq (.reg [⟨some 4, .mov (.c (.str ⟨⟨[60, 102, 97, 105, 108, 62]⟩⟩)), none⟩, ⟨some 5, .mov (.c (.bool true)), none⟩]) .ret)
def spec_l13Text_b15 : HCode := (.seq (.reg [⟨some 4, .mov (.c (.str ⟨⟨[60, 104, 111, 108, 101, 62]⟩⟩)), none⟩, ⟨some 5, .mov (.c (.bool true)), none⟩]) .ret)
def spec_l13Text_b18 : HCode := (.seq (.reg [⟨some 4, .mov (.c (.str ⟨⟨[60, 102, 117, 101, 108, 62]⟩⟩)), none⟩, ⟨some 5, .mov (.c (.bool true)), none⟩]) .ret)
def spec_l13Text_b21 : HCode := (.seq (.reg [⟨some 4, .mov (.c (.str ⟨⟨[46, 46, 46]⟩⟩)), none⟩, ⟨some 5, .mov (.c (.bool true)), none⟩]) .ret)
def spec_l13Text_b26 : HCode := (.seq (.reg [⟨some 81, .mov (.t 6), none⟩, ⟨some 4, .mov (.t 81), none⟩, ⟨some 5, .mov (.c (.bool true)), none⟩]) .ret)
def spec_l13Text_b30 : HCode := (.reg [⟨some 41, .mov (.t 7), none⟩, ⟨some 42, .bin .add (.t 41) (.c (.int .i64 1)), none⟩, ⟨some 7, .mov (.t 42), none⟩])
def spec_l13Text_b33 : HCode := (.reg [⟨some 77, .mov (.t 6), none⟩, ⟨some 78, .bin .add (.t 77) (.c (.str ⟨⟨[32]⟩⟩)), none⟩, ⟨some 79, .mov (.t 8), none⟩, ⟨some 80, .bin .add (.t 78) (.t 79), none⟩, ⟨some 6, .mov (.t 80), none⟩])
def spec_l13Text_b35 : HCode := (.reg [⟨some 74, .mov (.t 8), none⟩, ⟨some 75, .bin .add (.c (.str ⟨⟨[40]⟩⟩)) (.t 74), none⟩, ⟨some 76, .bin .add (.t 75) (.c (.str ⟨⟨[41]⟩⟩)), none⟩, ⟨some 8, .mov (.t 76), none⟩])
def spec_l13Text_b34 : HCode := (.cond (.t 73) spec_l13Text_b35 .skip)
def spec_l13Text_b32 : HCode := (.seq (.seq (.reg [⟨some 56, .faddr 3 (.t 2), none⟩, ⟨some 57, .load false 1 (.t 56), none⟩, ⟨some 58, .mov (.t 7), none⟩, ⟨some 59, .iaddr 4 (.t 57) (.t 58), none⟩, ⟨some 60, .faddr 3 (.t 59), none⟩, ⟨some 61, .load false 1 (.t 60), none⟩, ⟨some 62, .len (.t 61), none⟩, ⟨some 63, .bin .gtr (.t 62) (.c (.int .i64 0)), none⟩, ⟨some 64, .mov (.t 63), none⟩, ⟨some 65, .mov (.t 8), some (64, false)⟩, ⟨some 66, .slen (.t 65), some (64, false)⟩, ⟨some 67, .bin .gtr (.t 66) (.c (.int .i64 0)), some (64, false)⟩, ⟨some 68, .mov (.t 67), some (64, false)⟩, ⟨some 69, .mov (.t 8), some (68, true)⟩, ⟨some 70, .idx (.t 69) (.c (.int .i64 0)), some (68, true)⟩, ⟨some 71, .bin .eql (.t 70) (.c (.int .u8 45)), some (68, true)⟩, ⟨some 72, .pick (.t 68) (.t 71) (.c (.bool false)), some (64, false)⟩, ⟨some 73, .pick (.t 64) (.c (.bool true)) (.t 72), none⟩]) spec_l13Text_b34) spec_l13Text_b33)
def spec_l13Text_b37 : HCode := (.seq (.reg [⟨some 4, .mov (.c (.str ⟨⟨[]⟩⟩)), none⟩, ⟨some 5, .mov (.c (.bool false)), none⟩]) .ret)
def spec_l13Text_b36 : HCode := (.cond (.t 55) spec_l13Text_b37 .skip)
def spec_l13Text_b31 : HCode := (.seq (.seq (.reg [⟨some 54, .mov (.t 9), none⟩, ⟨some 55, .not (.t 54), none⟩]) spec_l13Text_b36) spec_l13Text_b32)
def spec_l13Text_b29 : HCode := (.seq (.block 2 (.seq (.reg [⟨some 44, .faddr 3 (.t 2), none⟩, ⟨some 45, .load false 1 (.t 44), none⟩, ⟨some 46, .mov (.t 7), none⟩, ⟨some 47, .iaddr 4 (.t 45) (.t 46), none⟩, ⟨some 48, .load true 4 (.t 47), none⟩, ⟨some 49, .mov (.t 1), none⟩, ⟨some 50, .bin .add (.t 49) (.c (.int .i64 1)), none⟩, ⟨some 51, .call (.c (.fn F.spec_l13Text [] [])) [(.t 48), (.t 50)], none⟩, ⟨some 43, .mov (.t 51), none⟩, ⟨some 52, .ext (.t 43) 0, none⟩, ⟨some 53, .ext (.t 43) 1, none⟩, ⟨some 8, .mov (.t 52), none⟩, ⟨some 9, .mov (.t 53), none⟩]) spec_l13Text_b31)) spec_l13Text_b30)
def spec_l13Text_b38 : HCode := (.cond (.t 40) .skip (.exit 1))
def spec_l13Text_l28 : HCode := (.seq (.seq (.reg [⟨some 36, .mov (.t 7), none⟩, ⟨some 37, .faddr 3 (.t 2), none⟩, ⟨some 38, .load false 1 (.t 37), none⟩, ⟨some 39, .len (.t 38), none⟩, ⟨some 40, .bin .lss (.t 36) (.t 39), none⟩]) spec_l13Text_b38) spec_l13Text_b29)
def spec_l13Text_b27 : HCode := (.block 1 (.loop spec_l13Text_l28))
def spec_l13Text_b25 : HCode := (.seq (.seq (.reg [⟨some 7, .mov (.c (.int .i64 0)), none⟩]) spec_l13Text_b27) spec_l13Text_b26)
def spec_l13Text_b24 : HCode := (.seq (.reg [⟨some 34, .faddr 1 (.t 2), none⟩, ⟨some 35, .load false 1 (.t 34), none⟩, ⟨some 6, .mov (.t 35), none⟩]) spec_l13Text_b25)
def spec_l13Text_b23 : HCode := (.cond (.t 32) spec_l13Text_b24 .skip)
def spec_l13Text_b22 : HCode := (.seq (.reg [⟨some 33, .bin .eql (.t 13) (.c (.int .i64 2)), none⟩, ⟨some 32, .mov (.t 33), none⟩]) spec_l13Text_b23)
def spec_l13Text_b20 : HCode := (.cond (.t 30) spec_l13Text_b21 spec_l13Text_b22)
def spec_l13Text_b19 : HCode := (.seq (.reg [⟨some 31, .bin .eql (.t 13) (.c (.int .i64 7)), none⟩, ⟨some 30, .mov (.t 31), none⟩]) spec_l13Text_b20)
def spec_l13Text_b17 : HCode := (.cond (.t 28) spec_l13Text_b18 spec_l13Text_b19)
def spec_l13Text_b16 : HCode := (.seq (.reg [⟨some 29, .bin .eql (.t 13) (.c (.int .i64 6)), none⟩, ⟨some 28, .mov (.t 29), none⟩]) spec_l13Text_b17)
def spec_l13Text_b14 : HCode := (.cond (.t 26) spec_l13Text_b15 spec_l13Text_b16)
def spec_l13Text_b13 : HCode := (.seq (.reg [⟨some 27, .bin .eql (.t 13) (.c (.int .i64 5)), none⟩, ⟨some 26, .mov (.t 27), none⟩]) spec_l13Text_b14)
def spec_l13Text_b11 : HCode := (.cond (.t 24) spec_l13Text_b12 spec_l13Text_b13)
def spec_l13Text_b10 : HCode := (.seq (.reg [⟨some 25, .bin .eql (.t 13) (.c (.int .i64 4)), none⟩, ⟨some 24, .mov (.t 25), none⟩]) spec_l13Text_b11)
def spec_l13Text_b8 : HCode := (.cond (.t 22) spec_l13Text_b9 spec_l13Text_b10)
def spec_l13Text_b7 : HCode := (.seq (.reg [⟨some 23, .bin .eql (.t 13) (.c (.int .i64 3)), none⟩, ⟨some 22, .mov (.t 23), none⟩]) spec_l13Text_b8)
def spec_l13Text_b5 : HCode := (.cond (.t 14) spec_l13Text_b6 spec_l13Text_b7)
def spec_l13Text_b4 : HCode := (.block 0 (.seq (.reg [⟨some 15, .bin .eql (.t 13) (.c (.int .i64 1)), none⟩, ⟨some 14, .mov (.t 15), none⟩]) spec_l13Text_b5))
def spec_l13Text_b2 : HCode := (.seq (.seq (.reg [⟨some 12, .faddr 0 (.t 2), none⟩, ⟨some 13, .load false 1 (.t 12), none⟩]) spec_l13Text_b4) spec_l13Text_b3)
def spec_l13Text_b40 : HCode := (.seq (.reg [⟨some 4, .mov (.c (.str ⟨⟨[]⟩⟩)), none⟩, ⟨some 5, .mov (.c (.bool false)), none⟩]) .ret)
def spec_l13Text_b39 : HCode := (.cond (.t 11) spec_l13Text_b40 .skip)
def spec_l13Text_b1 : HCode := (.seq (.seq (.reg [⟨some 10, .mov (.t 1), none⟩, ⟨some 11, .bin .gtr (.t 10) (.c (.int .i64 6)), none⟩]) spec_l13Text_b39) spec_l13Text_b2)
def spec_l13Text_b0 : HCode := (.seq (.reg [⟨some 2, .box (.t 0), none⟩, ⟨some 4, .mov (.c (.str ⟨⟨[]⟩⟩)), none⟩, ⟨some 5, .mov (.c (.bool false)), none⟩]) spec_l13Text_b1)
def spec_l13Text : HFunc := { np := 2, ntmps := 82, results := [(4, none), (5, none)], body := spec_l13Text_b0 }
def spec_ResText_b3 : HCode := (.seq (.reg [⟨some 12, .mov (.t 3), none⟩, ⟨some 2, .mov (.t 12), none⟩]) .ret)
def spec_ResText_b5 : HCode := (.seq (.reg [⟨some 2, .mov (.c (.str ⟨⟨[]⟩⟩)), none⟩]) .ret)
def spec_ResText_b4 : HCode := (.cond (.t 11) spec_ResText_b5 .skip)
def spec_ResText_b2 : HCode := (.seq (.seq (.reg [⟨some 10, .mov (.t 4), none⟩, ⟨some 11, .not (.t 10), none⟩]) spec_ResText_b4) spec_ResText_b3)
def spec_ResText_b1 : HCode := (.seq (.reg [⟨some 6, .load true 4 (.t 1), none⟩, ⟨some 7, .call (.c (.fn F.spec_l13Text [] [])) [(.t 6), (.c (.int .i64 1))], none⟩, ⟨some 5, .mov (.t 7), none⟩, ⟨some 8, .ext (.t 5) 0, none⟩, ⟨some 9, .ext (.t 5) 1, none⟩, ⟨some 3, .mov (.t 8), none⟩, ⟨some 4, .mov (.t 9), none⟩]) spec_ResText_b2)
def spec_ResText_b0 : HCode := (.seq (.reg [⟨some 1, .box (.t 0), none⟩, ⟨some 2, .mov (.c (.str ⟨⟨[]⟩⟩)), none⟩]) spec_ResText_b1)
def spec_ResText : HFunc := { np := 1, ntmps := 13, results := [(2, none)], body := spec_ResText_b0 }
def laws_toRes_b6 : HCode := (.seq (.reg [⟨some 17, .load true 4 (.t 3), none⟩, ⟨none, .store 4 (.t 2) (.t 17), none⟩]) .ret)
def laws_toRes_b5 : HCode := (.seq (.reg [⟨some 13, .faddr 3 (.t 1), none⟩, ⟨some 14, .load false 1 (.t 13), none⟩, ⟨some 15, .call (.c (.fn F.laws_toResS [] [])) [(.t 14)], none⟩, ⟨some 16, .faddr 3 (.t 3), none⟩, ⟨none, .store 1 (.t 16) (.t 15), none⟩]) laws_toRes_b6)
def laws_toRes_b4 : HCode := (.seq (.reg [⟨some 10, .faddr 2 (.t 1), none⟩, ⟨some 11, .load false 1 (.t 10), none⟩, ⟨some 12, .faddr 2 (.t 3), none⟩, ⟨none, .store 1 (.t 12) (.t 11), none⟩]) laws_toRes_b5)
def laws_toRes_b3 : HCode := (.seq (.reg [⟨some 7, .faddr 1 (.t 1), none⟩, ⟨some 8, .load false 1 (.t 7), none⟩, ⟨some 9, .faddr 1 (.t 3), none⟩, ⟨none, .store 1 (.t 9) (.t 8), none⟩]) laws_toRes_b4)
def laws_toRes_b2 : HCode := (.seq (.reg [⟨some 4, .faddr 0 (.t 1), none⟩, ⟨some 5, .load false 1 (.t 4), none⟩, ⟨some 6, .faddr 0 (.t 3), none⟩, ⟨none, .store 1 (.t 6) (.t 5), none⟩]) laws_toRes_b3)
def laws_toRes_b1 : HCode := (.seq (.reg [⟨some 3, .alloc (.agg [(.int .i64 0), (.str ⟨⟨[]⟩⟩), (.int .i64 0), .nils]), none⟩]) laws_toRes_b2)
def laws_toRes_b0 : HCode := (.seq (.reg [⟨some 1, .box (.t 0), none⟩, ⟨some 2, .alloc (.agg [(.int .i64 0), (.str ⟨⟨[]⟩⟩), (.int .i64 0), .nils]), none⟩]) laws_toRes_b1)
def laws_toRes : HFunc := { np := 1, ntmps := 18, results := [(2, some (true, 4))], body := laws_toRes_b0 }
def laws_toResS_b3 : HCode := (.seq (.reg [⟨some 22, .mov (.t 3), none⟩, ⟨some 2, .mov (.t 22), none⟩]) .ret)
def laws_toResS_b7 : HCode := (.reg [⟨some 12, .mov (.t 4), none⟩, ⟨some 13, .bin .add (.t 12) (.c (.int .i64 1)), none⟩, ⟨some 4, .mov (.t 13), none⟩])
def laws_toResS_b6 : HCode := (.seq (.block 1 (.reg [⟨some 14, .mov (.t 3), none⟩, ⟨some 15, .mov (.t 4), none⟩, ⟨some 16, .mov (.t 0), none⟩, ⟨some 17, .mov (.t 4), none⟩, ⟨some 18, .iaddr 4 (.t 16) (.t 17), none⟩, ⟨some 19, .load true 4 (.t 18), none⟩, ⟨some 20, .call (.c (.fn F.laws_toRes [] [])) [(.t 19)], none⟩, ⟨some 21, .iaddr 4 (.t 14) (.t 15), none⟩, ⟨none, .store 4 (.t 21) (.t 20), none⟩])) laws_toResS_b7)
def laws_toResS_b8 : HCode := (.cond (.t 11) .skip (.exit 0))
def laws_toResS_l5 : HCode := (.seq (.seq (.reg [⟨some 8, .mov (.t 4), none⟩, ⟨some 9, .mov (.t 0), none⟩, ⟨some 10, .len (.t 9), none⟩, ⟨some 11, .bin .lss (.t 8) (.t 10), none⟩]) laws_toResS_b8) laws_toResS_b6)
def laws_toResS_b4 : HCode := (.block 0 (.loop laws_toResS_l5))
def laws_toResS_b2 : HCode := (.seq (.seq (.reg [⟨some 4, .mov (.c (.int .i64 0)), none⟩]) laws_toResS_b4) laws_toResS_b3)
def laws_toResS_b1 : HCode := (.seq (.reg [⟨some 5, .mov (.t 0), none⟩, ⟨some 6, .len (.t 5), none⟩, ⟨some 7, .mkslice 4 56 (.agg [(.int .i64 0), (.str ⟨⟨[]⟩⟩), (.int .i64 0), .nils]) (.t 6) (.t 6), none⟩, ⟨some 3, .mov (.t 7), none⟩]) laws_toResS_b2)
def laws_toResS_b0 : HCode := (.seq (.reg [⟨some 2, .mov (.c .nils), none⟩]) laws_toResS_b1)
def laws_toResS : HFunc := { np := 1, ntmps := 23, results := [(2, none)], body := laws_toResS_b0 }
def laws_FnExactResText_b9 : HCode := (.seq (.reg [⟨some 2, .mov (.c (.bool true)), none⟩]) .ret)
def laws_FnExactResText_b11 : HCode := (.seq (.reg [⟨some 2, .mov (.c (.bool false)), none⟩]) .ret)
def laws_FnExactResText_b10 : HCode := (.cond (.t 26) laws_FnExactResText_b11 .skip)
def laws_FnExactResText_b8 : HCode := (.seq (.seq (.dreg (.q ⟨some 22, .load true 4 (.t 5), none⟩ (.q ⟨some 23, .load true 4 (.t 1), none⟩ (.l ⟨some 24, .call (.c (.fn F.laws_toRes [] [])) [(.t 23)], none⟩ [⟨some 22, .load true 4 (.t 5), none⟩] (.l ⟨some 25, .call (.c (.fn F.laws_eqRes [] [])) [(.t 22), (.t 24)], none⟩ [] (.q ⟨some 26, .not (.t 25), none⟩ .done) .none) .none)))) laws_FnExactResText_b10) laws_FnExactResText_b9)
def laws_FnExactResText_b13 : HCode := (.seq (.reg [⟨some 2, .mov (.c (.bool false)), none⟩]) .ret)
def laws_FnExactResText_b12 : HCode := (.cond (.t 21) laws_FnExactResText_b13 .skip)
def laws_FnExactResText_b7 : HCode := (.seq (.seq (.reg [⟨some 19, .mov (.t 6), none⟩, ⟨some 20, .mov (.t 4), none⟩, ⟨some 21, .bin .neq (.t 19) (.t 20), none⟩]) laws_FnExactResText_b12) laws_FnExactResText_b8)
def laws_FnExactResText_b6 : HCode := (.seq (.reg [⟨some 17, .load true 4 (.t 5), none⟩, ⟨some 18, .call (.c (.fn F.impl_ResText [] [])) [(.t 17)], none⟩, ⟨some 6, .mov (.t 18), none⟩]) laws_FnExactResText_b7)
def laws_FnExactResText_b5 : HCode := (.seq (.reg [⟨some 15, .load true 4 (.t 1), none⟩, ⟨some 16, .call (.c (.fn F.laws_toRes [] [])) [(.t 15)], none⟩, ⟨some 5, .alloc (.agg [(.int .i64 0), (.str ⟨⟨[]⟩⟩), (.int .i64 0), .nils]), none⟩, ⟨none, .store 4 (.t 5) (.t 16), none⟩]) laws_FnExactResText_b6)
def laws_FnExactResText_b4 : HCode := (.seq (.reg [⟨some 12, .load true 4 (.t 1), none⟩, ⟨some 13, .call (.c (.fn F.laws_toRes [] [])) [(.t 12)], none⟩, ⟨some 14, .call (.c (.fn F.spec_ResText [] [])) [(.t 13)], none⟩, ⟨some 4, .mov (.t 14), none⟩]) laws_FnExactResText_b5)
def laws_FnExactResText_b15 : HCode := (.seq (.reg [⟨some 2, .mov (.c (.bool true)), none⟩]) .ret)
def laws_FnExactResText_b14 : HCode := (.cond (.t 11) laws_FnExactResText_b15 .skip)
def laws_FnExactResText_b3 : HCode := (.seq (.seq (.reg [⟨some 10, .mov (.t 3), none⟩, ⟨some 11, .bin .lss (.t 10) (.c (.int .i64 0)), none⟩]) laws_FnExactResText_b14) laws_FnExactResText_b4)
def laws_FnExactResText_b2 : HCode := (.seq (.reg [⟨some 7, .load true 4 (.t 1), none⟩, ⟨some 8, .mov (.t 3), none⟩, ⟨some 9, .call (.c (.fn F.laws_szRes [] [])) [(.t 7), (.t 8)], none⟩, ⟨some 3, .mov (.t 9), none⟩]) laws_FnExactResText_b3)
def laws_FnExactResText_b1 : HCode := (.seq (.reg [⟨some 3, .mov (.c (.int .i64 1048576)), none⟩]) laws_FnExactResText_b2)
def laws_FnExactResText_b0 : HCode := (.seq (.reg [⟨some 1, .box (.t 0), none⟩, ⟨some 2, .mov (.c (.bool false)), none⟩]) laws_FnExactResText_b1)
def laws_FnExactResText : HFunc := { np := 1, ntmps := 27, results := [(2, none)], body := laws_FnExactResText_b0 }
end H
namespace S
noncomputable abbrev P : Program := Go.Proofs.Tryd.prog
theorem impl_in : stripF P F.impl_in = some H.impl_in := by kernel_rfl
theorem internal_stringslite_HasPrefix : stripF P F.internal_stringslite_HasPrefix = some H.internal_stringslite_HasPrefix := by kernel_rfl
theorem strings_HasPrefix : stripF P F.strings_HasPrefix = some H.strings_HasPrefix := by kernel_rfl
theorem impl_resText : stripF P F.impl_resText = some H.impl_resText := by kernel_rfl
theorem impl_ResText : stripF P F.impl_ResText = some H.impl_ResText := by kernel_rfl
theorem laws_szRes : stripF P F.laws_szRes = some H.laws_szRes := by kernel_rfl
theorem laws_szResS : stripF P F.laws_szResS = some H.laws_szResS := by kernel_rfl
theorem laws_eqRes : stripF P F.laws_eqRes = some H.laws_eqRes := by kernel_rfl
theorem laws_eqResS : stripF P F.laws_eqResS = some H.laws_eqResS := by kernel_rfl
theorem spec_l1In : stripF P F.spec_l1In = some H.spec_l1In := by kernel_rfl
theorem spec_l5Num : stripF P F.spec_l5Num = some H.spec_l5Num := by kernel_rfl
theorem spec_l13Num : stripF P F.spec_l13Num = some H.spec_l13Num := by kernel_rfl
theorem spec_l13Text : stripF P F.spec_l13Text = some H.spec_l13Text := by kernel_rfl
theorem spec_ResText : stripF P F.spec_ResText = some H.spec_ResText := by kernel_rfl
theorem laws_toRes : stripF P F.laws_toRes = some H.laws_toRes := by kernel_rfl
theorem laws_toResS : stripF P F.laws_toResS = some H.laws_toResS := by kernel_rfl
theorem laws_FnExactResText : stripF P F.laws_FnExactResText = some H.laws_FnExactResText := by kernel_rfl
end S
end W
