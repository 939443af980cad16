import Derived.Test.YtnhdobhfebiggaaHLVc
import Derived.KernelRfl
import Derived.Test.YtnhdobhfebiggaaProg
namespace W
open Go HL
set_option maxRecDepth 1000000
namespace F
abbrev main_main : Nat := 0
abbrev gosem_cut : Nat := 1
abbrev gosem_cut_init : Nat := 2
abbrev laws_FnExactSameTy : Nat := 3
abbrev laws_FnExactBlocks : Nat := 4
abbrev laws_FnExactVarsOf : Nat := 5
abbrev laws_FnExactLex : Nat := 6
abbrev laws_FnExactSameExp : Nat := 7
abbrev laws_FnExactIsBare : Nat := 8
abbrev laws_FnLex : Nat := 9
abbrev laws_FnExactDataOf : Nat := 10
abbrev laws_FnExactArityOf : Nat := 11
abbrev laws_FnExactSameProg : Nat := 12
abbrev laws_szTy : Nat := 13
abbrev spec_SameTy : Nat := 14
abbrev laws_toTy : Nat := 15
abbrev impl_SameTy : Nat := 16
abbrev laws_eqTy : Nat := 17
abbrev laws_szTokS : Nat := 18
abbrev spec_Blocks : Nat := 19
abbrev laws_toTokS : Nat := 20
abbrev impl_Blocks : Nat := 21
abbrev laws_eqTokS : Nat := 22
abbrev spec_VarsOf : Nat := 23
abbrev impl_VarsOf : Nat := 24
abbrev laws_eqIntS : Nat := 25
abbrev laws_markTy : Nat := 26
abbrev laws_markIntS : Nat := 27
abbrev laws_heldIntS : Nat := 28
abbrev spec_Lex : Nat := 29
abbrev impl_Lex : Nat := 30
abbrev laws_markTokS : Nat := 31
abbrev laws_heldTokS : Nat := 32
abbrev laws_szExp : Nat := 33
abbrev spec_SameExp : Nat := 34
abbrev laws_toExp : Nat := 35
abbrev impl_SameExp : Nat := 36
abbrev laws_eqExp : Nat := 37
abbrev spec_IsBare : Nat := 38
abbrev impl_IsBare : Nat := 39
abbrev laws_big : Nat := 40
abbrev spec_DrawLex : Nat := 41
abbrev spec_DrawNameOk : Nat := 42
abbrev spec_DrawGreatOk : Nat := 43
abbrev laws_sameToks : Nat := 44
abbrev impl_NameOk : Nat := 45
abbrev spec_NameOk : Nat := 46
abbrev impl_GreatOk : Nat := 47
abbrev spec_GreatOk : Nat := 48
abbrev impl_TokText : Nat := 49
abbrev laws_szProg : Nat := 50
abbrev spec_DataOf : Nat := 51
abbrev laws_toProg : Nat := 52
abbrev impl_DataOf : Nat := 53
abbrev laws_eqProg : Nat := 54
abbrev spec_ArityOf : Nat := 55
abbrev impl_ArityOf : Nat := 56
abbrev spec_SameProg : Nat := 57
abbrev impl_SameProg : Nat := 58
abbrev laws_szTyS : Nat := 59
abbrev laws_toTyS : Nat := 60
abbrev slices_EqualFunc_impl_Ty : Nat := 61
abbrev laws_eqTyS : Nat := 62
abbrev laws_szTok : Nat := 63
abbrev spec_l2Is : Nat := 64
abbrev laws_toTok : Nat := 65
abbrev slices_DeleteFunc_impl_Tok : Nat := 66
abbrev slices_Clone_impl_Tok : Nat := 67
abbrev impl_Blocks_1 : Nat := 68
abbrev impl_isMark : Nat := 69
abbrev laws_eqTok : Nat := 70
abbrev spec_l9Vars : Nat := 71
abbrev impl_varsIn : Nat := 72
abbrev laws_markTyS : Nat := 73
abbrev spec_l1Skip : Nat := 74
abbrev spec_l1Next : Nat := 75
abbrev spec_l1Place : Nat := 76
abbrev impl_passed : Nat := 77
abbrev impl_nextTok : Nat := 78
abbrev laws_markText : Nat := 79
abbrev laws_szExpS : Nat := 80
abbrev laws_szDecS : Nat := 81
abbrev laws_szAltS : Nat := 82
abbrev spec_l3SameDecs : Nat := 83
abbrev spec_l3SameTexts : Nat := 84
abbrev laws_toExpS : Nat := 85
abbrev laws_toDecS : Nat := 86
abbrev laws_toAltS : Nat := 87
abbrev slices_EqualFunc_impl_Exp : Nat := 88
abbrev slices_EqualFunc_impl_Dec : Nat := 89
abbrev impl_sameDec : Nat := 90
abbrev slices_EqualFunc_impl_Alt : Nat := 91
abbrev impl_sameAlt : Nat := 92
abbrev laws_eqExpS : Nat := 93
abbrev laws_eqDecS : Nat := 94
abbrev laws_eqAltS : Nat := 95
abbrev spec_l11Is : Nat := 96
abbrev impl_counted : Nat := 97
abbrev impl_IsBare_1 : Nat := 98
abbrev slices_ContainsFunc_impl_Dec : Nat := 99
abbrev impl_IsBare_1_1 : Nat := 100
abbrev spec_l1New : Nat := 101
abbrev spec_l1Text : Nat := 102
abbrev spec_l1Below : Nat := 103
abbrev spec_l1Str : Nat := 104
abbrev spec_l1Prog : Nat := 105
abbrev spec_l1Once : Nat := 106
abbrev impl_wordLike : Nat := 107
abbrev slices_Contains_string : Nat := 108
abbrev impl_words : Nat := 109
abbrev spec_l1Letters : Nat := 110
abbrev spec_l1Small : Nat := 111
abbrev spec_l1IsWord : Nat := 112
abbrev spec_l1Large : Nat := 113
abbrev strings_Join : Nat := 114
abbrev laws_szDataS : Nat := 115
abbrev laws_toDataS : Nat := 116
abbrev impl_isBool : Nat := 117
abbrev impl_conOf : Nat := 118
abbrev laws_eqDataS : Nat := 119
abbrev spec_l3SameData : Nat := 120
abbrev slices_EqualFunc_impl_Data : Nat := 121
abbrev impl_sameData : Nat := 122
abbrev slices_IndexFunc_impl_Tok : Nat := 123
abbrev spec_l9Has : Nat := 124
abbrev slices_Contains_int : Nat := 125
abbrev spec_l1Digit : Nat := 126
abbrev spec_l1NumOk : Nat := 127
abbrev spec_l1Letter : Nat := 128
abbrev spec_l1Kind : Nat := 129
abbrev spec_l1Has : Nat := 130
abbrev strings_HasPrefix : Nat := 131
abbrev impl_runLen : Nat := 132
abbrev impl_passed_1 : Nat := 133
abbrev impl_isLetter : Nat := 134
abbrev impl_nextTok_1 : Nat := 135
abbrev impl_isDigit : Nat := 136
abbrev impl_numberLike : Nat := 137
abbrev slices_Contains_byte : Nat := 138
abbrev laws_szDec : Nat := 139
abbrev laws_szAlt : Nat := 140
abbrev laws_toDec : Nat := 141
abbrev laws_toAlt : Nat := 142
abbrev slices_Equal_string : Nat := 143
abbrev laws_eqDec : Nat := 144
abbrev laws_eqAlt : Nat := 145
abbrev impl_mapped : Nat := 146
abbrev impl_counted_1 : Nat := 147
abbrev slices_IndexFunc_impl_Dec : Nat := 148
abbrev spec_l1Word : Nat := 149
abbrev spec_l1Byte : Nat := 150
abbrev impl_in : Nat := 151
abbrev slices_Index_string : Nat := 152
abbrev spec_l1In : Nat := 153
abbrev strings_Builder_Grow : Nat := 154
abbrev strings_Builder_WriteString : Nat := 155
abbrev strings_Builder_String : Nat := 156
abbrev laws_szData : Nat := 157
abbrev laws_toData : Nat := 158
abbrev laws_eqData : Nat := 159
abbrev slices_EqualFunc_impl_Con : Nat := 160
abbrev impl_sameCon : Nat := 161
abbrev slices_Index_int : Nat := 162
abbrev internal_stringslite_HasPrefix : Nat := 163
abbrev slices_Index_byte : Nat := 164
abbrev laws_szStringS : Nat := 165
abbrev laws_toStringS : Nat := 166
abbrev laws_eqStringS : Nat := 167
abbrev impl_mappedDecs : Nat := 168
abbrev slices_Clone_string : Nat := 169
abbrev strings_Builder_copyCheck : Nat := 170
abbrev strings_Builder_grow : Nat := 171
abbrev laws_szConS : Nat := 172
abbrev laws_toConS : Nat := 173
abbrev laws_eqConS : Nat := 174
abbrev internal_abi_NoEscape : Nat := 175
abbrev internal_bytealg_MakeNoZero : Nat := 176
abbrev laws_szCon : Nat := 177
abbrev laws_toCon : Nat := 178
abbrev laws_eqCon : Nat := 179
abbrev runtime_boundsError_Error : Nat := 180
abbrev runtime_boundsError_RuntimeError : Nat := 181
abbrev runtime_errorString_Error : Nat := 182
abbrev runtime_errorString_RuntimeError : Nat := 183
abbrev runtime_plainError_Error : Nat := 184
abbrev runtime_plainError_RuntimeError : Nat := 185
abbrev runtime_errorAddressString_Error : Nat := 186
abbrev runtime_errorAddressString_RuntimeError : Nat := 187
abbrev runtime_TypeAssertionError_Error : Nat := 188
abbrev runtime_TypeAssertionError_RuntimeError : Nat := 189
abbrev runtime_PanicNilError_Error : Nat := 190
abbrev runtime_PanicNilError_RuntimeError : Nat := 191
abbrev internal_abi_Type_Align : Nat := 192
abbrev internal_runtime_maps_unhashableTypeError_Error : Nat := 193
abbrev internal_runtime_maps_unhashableTypeError_RuntimeError : Nat := 194
abbrev strings_Builder_Reset : Nat := 195
abbrev internal_abi_Kind_String : Nat := 196
end F
namespace H
def impl_isLetter_b1 : HCode := (.seq (.reg [⟨some 3, .mov (.t 0), none⟩, ⟨some 4, .bin .geq (.t 3) (.c (.int .u8 97)), none⟩, ⟨some 5, .mov (.t 4), none⟩, ⟨some 6, .mov (.t 0), some (5, true)⟩, ⟨some 7, .bin .leq (.t 6) (.c (.int .u8 122)), some (5, true)⟩, ⟨some 8, .pick (.t 5) (.t 7) (.c (.bool false)), none⟩, ⟨some 9, .mov (.t 8), none⟩, ⟨some 10, .mov (.t 0), some (9, false)⟩, ⟨some 11, .bin .geq (.t 10) (.c (.int .u8 65)), some (9, false)⟩, ⟨some 12, .mov (.t 11), some (9, false)⟩, ⟨some 13, .mov (.t 0), some (12, true)⟩, ⟨some 14, .bin .leq (.t 13) (.c (.int .u8 90)), some (12, true)⟩, ⟨some 15, .pick (.t 12) (.t 14) (.c (.bool false)), some (9, false)⟩, ⟨some 16, .pick (.t 9) (.c (.bool true)) (.t 15), none⟩, ⟨some 2, .mov (.t 16), none⟩]) .ret)
def impl_isLetter_b0 : HCode := (.seq (.reg [⟨some 2, .mov (.c (.bool false)), none⟩]) impl_isLetter_b1)
def impl_isLetter : HFunc := { np := 1, ntmps := 17, results := [(2, none)], body := impl_isLetter_b0 }
def impl_isDigit_b1 : HCode := (.seq (.reg [⟨some 3, .mov (.t 0), none⟩, ⟨some 4, .bin .geq (.t 3) (.c (.int .u8 48)), none⟩, ⟨some 5, .mov (.t 4), none⟩, ⟨some 6, .mov (.t 0), some (5, true)⟩, ⟨some 7, .bin .leq (.t 6) (.c (.int .u8 57)), some (5, true)⟩, ⟨some 8, .pick (.t 5) (.t 7) (.c (.bool false)), none⟩, ⟨some 2, .mov (.t 8), none⟩]) .ret)
def impl_isDigit_b0 : HCode := (.seq (.reg [⟨some 2, .mov (.c (.bool false)), none⟩]) impl_isDigit_b1)
def impl_isDigit : HFunc := { np := 1, ntmps := 9, results := [(2, none)], body := impl_isDigit_b0 }
def impl_in_b1 : HCode := (.seq (.reg [⟨some 7, .mov (.t 0), none⟩, ⟨some 8, .mov (.t 1), none⟩, ⟨some 9, .bin .geq (.t 7) (.t 8), none⟩, ⟨some 10, .mov (.t 9), none⟩, ⟨some 11, .mov (.t 0), some (10, true)⟩, ⟨some 12, .mov (.t 2), some (10, true)⟩, ⟨some 13, .bin .leq (.t 11) (.t 12), some (10, true)⟩, ⟨some 14, .pick (.t 10) (.t 13) (.c (.bool false)), none⟩, ⟨some 6, .mov (.t 14), none⟩]) .ret)
def impl_in_b0 : HCode := (.seq (.reg [⟨some 6, .mov (.c (.bool false)), none⟩]) impl_in_b1)
def impl_in : HFunc := { np := 3, ntmps := 15, results := [(6, none)], body := impl_in_b0 }
def impl_wordLike_b2 : HCode := (.seq (.reg [⟨some 26, .mov (.t 0), none⟩, ⟨some 27, .slen (.t 26), none⟩, ⟨some 28, .call (.c (.fn F.impl_in [] [])) [(.t 27), (.c (.int .i64 1)), (.c (.int .i64 8))], none⟩, ⟨some 2, .mov (.t 28), none⟩]) .ret)
def impl_wordLike_b7 : HCode := (.reg [⟨some 25, .bin .add (.t 6) (.c (.int .i64 1)), none⟩, ⟨some 6, .mov (.t 25), none⟩])
def impl_wordLike_b10 : HCode := (.seq (.reg [⟨some 2, .mov (.c (.bool false)), none⟩]) .ret)
def impl_wordLike_b9 : HCode := (.cond (.t 24) impl_wordLike_b10 .skip)
def impl_wordLike_b8 : HCode := (.seq (.reg [⟨some 9, .mov (.t 0), none⟩, ⟨some 10, .mov (.t 3), none⟩, ⟨some 11, .idx (.t 9) (.t 10), none⟩, ⟨some 12, .call (.c (.fn F.impl_isLetter [] [])) [(.t 11)], none⟩, ⟨some 13, .not (.t 12), none⟩, ⟨some 14, .mov (.t 13), none⟩, ⟨some 15, .mov (.t 3), some (14, true)⟩, ⟨some 16, .bin .eql (.t 15) (.c (.int .i64 0)), some (14, true)⟩, ⟨some 17, .mov (.t 16), some (14, true)⟩, ⟨some 18, .mov (.t 0), some (17, false)⟩, ⟨some 19, .mov (.t 3), some (17, false)⟩, ⟨some 20, .idx (.t 18) (.t 19), some (17, false)⟩, ⟨some 21, .call (.c (.fn F.impl_isDigit [] [])) [(.t 20)], some (17, false)⟩, ⟨some 22, .not (.t 21), some (17, false)⟩, ⟨some 23, .pick (.t 17) (.c (.bool true)) (.t 22), some (14, true)⟩, ⟨some 24, .pick (.t 14) (.t 23) (.c (.bool false)), none⟩]) impl_wordLike_b9)
def impl_wordLike_b6 : HCode := (.seq (.block 1 (.seq (.reg [⟨some 8, .mov (.t 6), none⟩, ⟨some 3, .mov (.t 8), none⟩]) impl_wordLike_b8)) impl_wordLike_b7)
def impl_wordLike_b5 : HCode := (.seq (.cond (.t 7) .skip (.exit 0)) impl_wordLike_b6)
def impl_wordLike_l4 : HCode := (.seq (.reg [⟨some 7, .bin .lss (.t 6) (.t 5), none⟩]) impl_wordLike_b5)
def impl_wordLike_b3 : HCode := (.block 0 (.loop impl_wordLike_l4))
def impl_wordLike_b1 : HCode := (.seq (.seq (.reg [⟨some 4, .mov (.t 0), none⟩, ⟨some 5, .slen (.t 4), none⟩, ⟨some 6, .mov (.c (.int .i64 0)), none⟩]) impl_wordLike_b3) impl_wordLike_b2)
def impl_wordLike_b0 : HCode := (.seq (.reg [⟨some 2, .mov (.c (.bool false)), none⟩]) impl_wordLike_b1)
def impl_wordLike : HFunc := { np := 1, ntmps := 29, results := [(2, none)], body := impl_wordLike_b0 }
def impl_GreatOk_b1 : HCode := (.seq (.reg [⟨some 3, .mov (.t 0), none⟩, ⟨some 4, .call (.c (.fn F.impl_wordLike [] [])) [(.t 3)], none⟩, ⟨some 5, .mov (.t 4), none⟩, ⟨some 6, .mov (.t 0), some (5, true)⟩, ⟨some 7, .idx (.t 6) (.c (.int .i64 0)), some (5, true)⟩, ⟨some 8, .bin .leq (.t 7) (.c (.int .u8 90)), some (5, true)⟩, ⟨some 9, .pick (.t 5) (.t 8) (.c (.bool false)), none⟩, ⟨some 2, .mov (.t 9), none⟩]) .ret)
def impl_GreatOk_b0 : HCode := (.seq (.reg [⟨some 2, .mov (.c (.bool false)), none⟩]) impl_GreatOk_b1)
def impl_GreatOk : HFunc := { np := 1, ntmps := 10, results := [(2, none)], body := impl_GreatOk_b0 }
def internal_stringslite_HasPrefix_b1 : HCode := (.seq (.reg [⟨some 5, .mov (.t 0), none⟩, ⟨some 6, .slen (.t 5), none⟩, ⟨some 7, .mov (.t 1), none⟩, ⟨some 8, .slen (.t 7), none⟩, ⟨some 9, .bin .geq (.t 6) (.t 8), none⟩, ⟨some 10, .mov (.t 9), none⟩, ⟨some 11, .mov (.t 0), some (10, true)⟩, ⟨some 12, .mov (.t 1), some (10, true)⟩, ⟨some 13, .slen (.t 12), some (10, true)⟩, ⟨some 14, .substr (.t 11) none (some (.t 13)), some (10, true)⟩, ⟨some 15, .mov (.t 1), some (10, true)⟩, ⟨some 16, .bin .eql (.t 14) (.t 15), some (10, true)⟩, ⟨some 17, .pick (.t 10) (.t 16) (.c (.bool false)), none⟩, ⟨some 4, .mov (.t 17), none⟩]) .ret)
def internal_stringslite_HasPrefix_b0 : HCode := (.seq (.reg [⟨some 4, .mov (.c (.bool false)), none⟩]) internal_stringslite_HasPrefix_b1)
def internal_stringslite_HasPrefix : HFunc := { np := 2, ntmps := 18, results := [(4, none)], body := internal_stringslite_HasPrefix_b0 }
def strings_HasPrefix_b1 : HCode := (.seq (.reg [⟨some 5, .mov (.t 0), none⟩, ⟨some 6, .mov (.t 1), none⟩, ⟨some 7, .call (.c (.fn F.internal_stringslite_HasPrefix [] [])) [(.t 5), (.t 6)], none⟩, ⟨some 4, .mov (.t 7), none⟩]) .ret)
def strings_HasPrefix_b0 : HCode := (.seq (.reg [⟨some 4, .mov (.c (.bool false)), none⟩]) strings_HasPrefix_b1)
def strings_HasPrefix : HFunc := { np := 2, ntmps := 8, results := [(4, none)], body := strings_HasPrefix_b0 }
def impl_passed_1_b1 : HCode := (.seq (.reg [⟨some 3, .mov (.t 0), none⟩, ⟨some 4, .bin .neq (.t 3) (.c (.int .u8 10)), none⟩, ⟨some 2, .mov (.t 4), none⟩]) .ret)
def impl_passed_1_b0 : HCode := (.seq (.reg [⟨some 2, .mov (.c (.bool false)), none⟩]) impl_passed_1_b1)
def impl_passed_1 : HFunc := { np := 1, ntmps := 5, results := [(2, none)], body := impl_passed_1_b0 }
def impl_runLen_b3 : HCode := (.seq (.reg [⟨some 19, .mov (.t 5), none⟩, ⟨some 4, .mov (.t 19), none⟩]) .ret)
def impl_runLen_b5 : HCode := (.block 1 (.reg [⟨some 17, .mov (.t 5), none⟩, ⟨some 18, .bin .add (.t 17) (.c (.int .i64 1)), none⟩, ⟨some 5, .mov (.t 18), none⟩]))
def impl_runLen_b6 : HCode := (.cond (.t 16) .skip (.exit 0))
def impl_runLen_l4 : HCode := (.seq (.seq (.reg [⟨some 6, .mov (.t 5), none⟩, ⟨some 7, .mov (.t 0), none⟩, ⟨some 8, .slen (.t 7), none⟩, ⟨some 9, .bin .lss (.t 6) (.t 8), none⟩, ⟨some 10, .mov (.t 9), none⟩, ⟨some 11, .mov (.t 1), some (10, true)⟩, ⟨some 12, .mov (.t 0), some (10, true)⟩, ⟨some 13, .mov (.t 5), some (10, true)⟩, ⟨some 14, .idx (.t 12) (.t 13), some (10, true)⟩, ⟨some 15, .call (.t 11) [(.t 14)], some (10, true)⟩, ⟨some 16, .pick (.t 10) (.t 15) (.c (.bool false)), none⟩]) impl_runLen_b6) impl_runLen_b5)
def impl_runLen_b2 : HCode := (.seq (.block 0 (.loop impl_runLen_l4)) impl_runLen_b3)
def impl_runLen_b1 : HCode := (.seq (.reg [⟨some 5, .mov (.c (.int .i64 0)), none⟩]) impl_runLen_b2)
def impl_runLen_b0 : HCode := (.seq (.reg [⟨some 4, .mov (.c (.int .i64 0)), none⟩]) impl_runLen_b1)
def impl_runLen : HFunc := { np := 2, ntmps := 20, results := [(4, none)], body := impl_runLen_b0 }
def impl_passed_b2 : HCode := (.seq (.reg [⟨some 2, .mov (.c (.int .i64 0)), none⟩]) .ret)
def impl_passed_b4 : HCode := (.seq (.reg [⟨some 2, .mov (.c (.int .i64 1)), none⟩]) .ret)
def impl_passed_b7 : HCode := (.seq (.reg [⟨some 15, .mov (.t 0), none⟩, ⟨some 16, .call (.c (.fn F.impl_runLen [] [])) [(.t 15), (.c (.fn F.impl_passed_1 [] []))], none⟩, ⟨some 2, .mov (.t 16), none⟩]) .ret)
def impl_passed_b6 : HCode := (.cond (.t 12) impl_passed_b7 .skip)
def impl_passed_b5 : HCode := (.seq (.reg [⟨some 13, .mov (.t 0), none⟩, ⟨some 14, .call (.c (.fn F.strings_HasPrefix [] [])) [(.t 13), (.c (.str ⟨⟨[45, 45]⟩⟩))], none⟩, ⟨some 12, .mov (.t 14), none⟩]) impl_passed_b6)
def impl_passed_b3 : HCode := (.cond (.t 3) impl_passed_b4 impl_passed_b5)
def impl_passed_b1 : HCode := (.seq (.block 0 (.seq (.reg [⟨some 4, .mov (.t 0), none⟩, ⟨some 5, .idx (.t 4) (.c (.int .i64 0)), none⟩, ⟨some 6, .bin .eql (.t 5) (.c (.int .u8 32)), none⟩, ⟨some 7, .mov (.t 6), none⟩, ⟨some 8, .mov (.t 0), some (7, false)⟩, ⟨some 9, .idx (.t 8) (.c (.int .i64 0)), some (7, false)⟩, ⟨some 10, .bin .eql (.t 9) (.c (.int .u8 10)), some (7, false)⟩, ⟨some 11, .pick (.t 7) (.c (.bool true)) (.t 10), none⟩, ⟨some 3, .mov (.t 11), none⟩]) impl_passed_b3)) impl_passed_b2)
def impl_passed_b0 : HCode := (.seq (.reg [⟨some 2, .mov (.c (.int .i64 0)), none⟩]) impl_passed_b1)
def impl_passed : HFunc := { np := 1, ntmps := 17, results := [(2, none)], body := impl_passed_b0 }
def slices_Index_string_b2 : HCode := (.seq (.reg [⟨some 4, .mov (.c (.int .i64 (-1))), none⟩]) .ret)
def slices_Index_string_b7 : HCode := (.reg [⟨some 18, .bin .add (.t 8) (.c (.int .i64 1)), none⟩, ⟨some 8, .mov (.t 18), none⟩])
def slices_Index_string_b10 : HCode := (.seq (.reg [⟨some 17, .mov (.t 5), none⟩, ⟨some 4, .mov (.t 17), none⟩]) .ret)
def slices_Index_string_b9 : HCode := (.cond (.t 16) slices_Index_string_b10 .skip)
def slices_Index_string_b8 : HCode := (.seq (.reg [⟨some 11, .mov (.t 1), none⟩, ⟨some 12, .mov (.t 0), none⟩, ⟨some 13, .mov (.t 5), none⟩, ⟨some 14, .iaddr 1 (.t 12) (.t 13), none⟩, ⟨some 15, .load false 1 (.t 14), none⟩, ⟨some 16, .bin .eql (.t 11) (.t 15), none⟩]) slices_Index_string_b9)
def slices_Index_string_b6 : HCode := (.seq (.block 1 (.seq (.reg [⟨some 10, .mov (.t 8), none⟩, ⟨some 5, .mov (.t 10), none⟩]) slices_Index_string_b8)) slices_Index_string_b7)
def slices_Index_string_b5 : HCode := (.seq (.cond (.t 9) .skip (.exit 0)) slices_Index_string_b6)
def slices_Index_string_l4 : HCode := (.seq (.reg [⟨some 9, .bin .lss (.t 8) (.t 7), none⟩]) slices_Index_string_b5)
def slices_Index_string_b3 : HCode := (.block 0 (.loop slices_Index_string_l4))
def slices_Index_string_b1 : HCode := (.seq (.seq (.reg [⟨some 6, .mov (.t 0), none⟩, ⟨some 7, .len (.t 6), none⟩, ⟨some 8, .mov (.c (.int .i64 0)), none⟩]) slices_Index_string_b3) slices_Index_string_b2)
def slices_Index_string_b0 : HCode := (.seq (.reg [⟨some 4, .mov (.c (.int .i64 0)), none⟩]) slices_Index_string_b1)
def slices_Index_string : HFunc := { np := 2, ntmps := 19, results := [(4, none)], body := slices_Index_string_b0 }
def slices_Contains_string_b1 : HCode := (.seq (.reg [⟨some 5, .mov (.t 0), none⟩, ⟨some 6, .mov (.t 1), none⟩, ⟨some 7, .call (.c (.fn F.slices_Index_string [] [])) [(.t 5), (.t 6)], none⟩, ⟨some 8, .bin .geq (.t 7) (.c (.int .i64 0)), none⟩, ⟨some 4, .mov (.t 8), none⟩]) .ret)
def slices_Contains_string_b0 : HCode := (.seq (.reg [⟨some 4, .mov (.c (.bool false)), none⟩]) slices_Contains_string_b1)
def slices_Contains_string : HFunc := { np := 2, ntmps := 9, results := [(4, none)], body := slices_Contains_string_b0 }
def slices_Index_byte_b2 : HCode := (.seq (.reg [⟨some 4, .mov (.c (.int .i64 (-1))), none⟩]) .ret)
def slices_Index_byte_b7 : HCode := (.reg [⟨some 18, .bin .add (.t 8) (.c (.int .i64 1)), none⟩, ⟨some 8, .mov (.t 18), none⟩])
def slices_Index_byte_b10 : HCode := (.seq (.reg [⟨some 17, .mov (.t 5), none⟩, ⟨some 4, .mov (.t 17), none⟩]) .ret)
def slices_Index_byte_b9 : HCode := (.cond (.t 16) slices_Index_byte_b10 .skip)
def slices_Index_byte_b8 : HCode := (.seq (.reg [⟨some 11, .mov (.t 1), none⟩, ⟨some 12, .mov (.t 0), none⟩, ⟨some 13, .mov (.t 5), none⟩, ⟨some 14, .iaddr 1 (.t 12) (.t 13), none⟩, ⟨some 15, .load false 1 (.t 14), none⟩, ⟨some 16, .bin .eql (.t 11) (.t 15), none⟩]) slices_Index_byte_b9)
def slices_Index_byte_b6 : HCode := (.seq (.block 1 (.seq (.reg [⟨some 10, .mov (.t 8), none⟩, ⟨some 5, .mov (.t 10), none⟩]) slices_Index_byte_b8)) slices_Index_byte_b7)
def slices_Index_byte_b5 : HCode := (.seq (.cond (.t 9) .skip (.exit 0)) slices_Index_byte_b6)
def slices_Index_byte_l4 : HCode := (.seq (.reg [⟨some 9, .bin .lss (.t 8) (.t 7), none⟩]) slices_Index_byte_b5)
def slices_Index_byte_b3 : HCode := (.block 0 (.loop slices_Index_byte_l4))
def slices_Index_byte_b1 : HCode := (.seq (.seq (.reg [⟨some 6, .mov (.t 0), none⟩, ⟨some 7, .len (.t 6), none⟩, ⟨some 8, .mov (.c (.int .i64 0)), none⟩]) slices_Index_byte_b3) slices_Index_byte_b2)
def slices_Index_byte_b0 : HCode := (.seq (.reg [⟨some 4, .mov (.c (.int .i64 0)), none⟩]) slices_Index_byte_b1)
def slices_Index_byte : HFunc := { np := 2, ntmps := 19, results := [(4, none)], body := slices_Index_byte_b0 }
def slices_Contains_byte_b1 : HCode := (.seq (.reg [⟨some 5, .mov (.t 0), none⟩, ⟨some 6, .mov (.t 1), none⟩, ⟨some 7, .call (.c (.fn F.slices_Index_byte [] [])) [(.t 5), (.t 6)], none⟩, ⟨some 8, .bin .geq (.t 7) (.c (.int .i64 0)), none⟩, ⟨some 4, .mov (.t 8), none⟩]) .ret)
def slices_Contains_byte_b0 : HCode := (.seq (.reg [⟨some 4, .mov (.c (.bool false)), none⟩]) slices_Contains_byte_b1)
def slices_Contains_byte : HFunc := { np := 2, ntmps := 9, results := [(4, none)], body := slices_Contains_byte_b0 }
def impl_nextTok_1_b1 : HCode := (.seq (.reg [⟨some 3, .mov (.t 0), none⟩, ⟨some 4, .call (.c (.fn F.impl_isLetter [] [])) [(.t 3)], none⟩, ⟨some 5, .mov (.t 4), none⟩, ⟨some 6, .mov (.t 0), some (5, false)⟩, ⟨some 7, .call (.c (.fn F.impl_isDigit [] [])) [(.t 6)], some (5, false)⟩, ⟨some 8, .pick (.t 5) (.c (.bool true)) (.t 7), none⟩, ⟨some 2, .mov (.t 8), none⟩]) .ret)
def impl_nextTok_1_b0 : HCode := (.seq (.reg [⟨some 2, .mov (.c (.bool false)), none⟩]) impl_nextTok_1_b1)
def impl_nextTok_1 : HFunc := { np := 1, ntmps := 9, results := [(2, none)], body := impl_nextTok_1_b0 }
def impl_words_b1 : HCode := (.seq (.reg [⟨some 1, .bslice 1 9 [(.str ⟨⟨[]⟩⟩)] [(0, (.c (.str ⟨⟨[108, 101, 116]⟩⟩))), (1, (.c (.str ⟨⟨[105, 110]⟩⟩))), (2, (.c (.str ⟨⟨[119, 104, 101, 114, 101]⟩⟩))), (3, (.c (.str ⟨⟨[99, 97, 115, 101]⟩⟩))), (4, (.c (.str ⟨⟨[111, 102]⟩⟩))), (5, (.c (.str ⟨⟨[105, 102]⟩⟩))), (6, (.c (.str ⟨⟨[116, 104, 101, 110]⟩⟩))), (7, (.c (.str ⟨⟨[101, 108, 115, 101]⟩⟩))), (8, (.c (.str ⟨⟨[100, 97, 116, 97]⟩⟩)))], none⟩, ⟨some 0, .mov (.t 1), none⟩]) .ret)
def impl_words_b0 : HCode := (.seq (.reg [⟨some 0, .mov (.c .nils), none⟩]) impl_words_b1)
def impl_words : HFunc := { np := 0, ntmps := 2, results := [(0, none)], body := impl_words_b0 }
def impl_numberLike_b1 : HCode := (.seq (.reg [⟨some 3, .mov (.t 0), none⟩, ⟨some 4, .slen (.t 3), none⟩, ⟨some 5, .call (.c (.fn F.impl_in [] [])) [(.t 4), (.c (.int .i64 1)), (.c (.int .i64 6))], none⟩, ⟨some 6, .mov (.t 5), none⟩, ⟨some 7, .mov (.t 0), some (6, true)⟩, ⟨some 8, .idx (.t 7) (.c (.int .i64 0)), some (6, true)⟩, ⟨some 9, .bin .neq (.t 8) (.c (.int .u8 48)), some (6, true)⟩, ⟨some 10, .mov (.t 9), some (6, true)⟩, ⟨some 11, .mov (.t 0), some (10, false)⟩, ⟨some 12, .slen (.t 11), some (10, false)⟩, ⟨some 13, .bin .eql (.t 12) (.c (.int .i64 1)), some (10, false)⟩, ⟨some 14, .pick (.t 10) (.c (.bool true)) (.t 13), some (6, true)⟩, ⟨some 15, .pick (.t 6) (.t 14) (.c (.bool false)), none⟩, ⟨some 2, .mov (.t 15), none⟩]) .ret)
def impl_numberLike_b0 : HCode := (.seq (.reg [⟨some 2, .mov (.c (.bool false)), none⟩]) impl_numberLike_b1)
def impl_numberLike : HFunc := { np := 1, ntmps := 16, results := [(2, none)], body := impl_numberLike_b0 }
def impl_NameOk_b1 : HCode := (.seq (.reg [⟨some 3, .mov (.t 0), none⟩, ⟨some 4, .call (.c (.fn F.impl_wordLike [] [])) [(.t 3)], none⟩, ⟨some 5, .mov (.t 4), none⟩, ⟨some 6, .mov (.t 0), some (5, true)⟩, ⟨some 7, .idx (.t 6) (.c (.int .i64 0)), some (5, true)⟩, ⟨some 8, .bin .geq (.t 7) (.c (.int .u8 97)), some (5, true)⟩, ⟨some 9, .pick (.t 5) (.t 8) (.c (.bool false)), none⟩, ⟨some 10, .mov (.t 9), none⟩, ⟨some 11, .call (.c (.fn F.impl_words [] [])) [], some (10, true)⟩, ⟨some 12, .mov (.t 0), some (10, true)⟩, ⟨some 13, .call (.c (.fn F.slices_Contains_string [] [])) [(.t 11), (.t 12)], some (10, true)⟩, ⟨some 14, .not (.t 13), some (10, true)⟩, ⟨some 15, .pick (.t 10) (.t 14) (.c (.bool false)), none⟩, ⟨some 2, .mov (.t 15), none⟩]) .ret)
def impl_NameOk_b0 : HCode := (.seq (.reg [⟨some 2, .mov (.c (.bool false)), none⟩]) impl_NameOk_b1)
def impl_NameOk : HFunc := { np := 1, ntmps := 16, results := [(2, none)], body := impl_NameOk_b0 }
def impl_nextTok_b2 : HCode := (.seq (.dreg (.q ⟨some 51, .mov (.t 0), none⟩ (.q ⟨some 52, .substr (.t 51) none (some (.c (.int .i64 1))), none⟩ (.q ⟨some 53, .build [(.int .i64 0), (.str ⟨⟨[]⟩⟩), (.int .i64 0), (.int .i64 0)] [(0, 1, (.c (.int .i64 5))), (1, 1, (.t 52))], none⟩ (.q ⟨some 56, .mov (.t 0), none⟩ (.q ⟨some 57, .idx (.t 56) (.c (.int .i64 0)), none⟩ (.l ⟨some 54, .bslice 1 13 [(.int .u8 0)] [(0, (.c (.int .u8 40))), (1, (.c (.int .u8 41))), (2, (.c (.int .u8 123))), (3, (.c (.int .u8 125))), (4, (.c (.int .u8 59))), (5, (.c (.int .u8 61))), (6, (.c (.int .u8 92))), (7, (.c (.int .u8 124))), (8, (.c (.int .u8 43))), (9, (.c (.int .u8 45))), (10, (.c (.int .u8 42))), (11, (.c (.int .u8 60))), (12, (.c (.int .u8 95)))], none⟩ [⟨some 57, .idx (.t 56) (.c (.int .i64 0)), none⟩, ⟨some 56, .mov (.t 0), none⟩, ⟨some 53, .build [(.int .i64 0), (.str ⟨⟨[]⟩⟩), (.int .i64 0), (.int .i64 0)] [(0, 1, (.c (.int .i64 5))), (1, 1, (.t 52))], none⟩, ⟨some 52, .substr (.t 51) none (some (.c (.int .i64 1))), none⟩, ⟨some 51, .mov (.t 0), none⟩] (.l ⟨some 55, .bmark (.t 54), none⟩ [⟨some 57, .idx (.t 56) (.c (.int .i64 0)), none⟩, ⟨some 56, .mov (.t 0), none⟩, ⟨some 53, .build [(.int .i64 0), (.str ⟨⟨[]⟩⟩), (.int .i64 0), (.int .i64 0)] [(0, 1, (.c (.int .i64 5))), (1, 1, (.t 52))], none⟩, ⟨some 52, .substr (.t 51) none (some (.c (.int .i64 1))), none⟩, ⟨some 51, .mov (.t 0), none⟩] (.l ⟨some 58, .call (.c (.fn F.slices_Contains_byte [] [])) [(.t 55), (.t 57)], none⟩ [⟨some 53, .build [(.int .i64 0), (.str ⟨⟨[]⟩⟩), (.int .i64 0), (.int .i64 0)] [(0, 1, (.c (.int .i64 5))), (1, 1, (.t 52))], none⟩, ⟨some 52, .substr (.t 51) none (some (.c (.int .i64 1))), none⟩, ⟨some 51, .mov (.t 0), none⟩] (.l ⟨none, .store 4 (.t 2) (.t 53), none⟩ [] (.q ⟨some 3, .mov (.t 58), none⟩ .done) .none) .none) .none) .none))))))) .ret)
def impl_nextTok_b6 : HCode := (.seq (.reg [⟨some 25, .mov (.t 4), none⟩, ⟨some 26, .build [(.int .i64 0), (.str ⟨⟨[]⟩⟩), (.int .i64 0), (.int .i64 0)] [(0, 1, (.c (.int .i64 2))), (1, 1, (.t 25))], none⟩, ⟨some 27, .mov (.t 4), none⟩, ⟨some 28, .call (.c (.fn F.impl_GreatOk [] [])) [(.t 27)], none⟩, ⟨none, .store 4 (.t 2) (.t 26), none⟩, ⟨some 3, .mov (.t 28), none⟩]) .ret)
def impl_nextTok_b8 : HCode := (.seq (.reg [⟨some 18, .mov (.t 4), none⟩, ⟨some 19, .build [(.int .i64 0), (.str ⟨⟨[]⟩⟩), (.int .i64 0), (.int .i64 0)] [(0, 1, (.c (.int .i64 4))), (1, 1, (.t 18))], none⟩, ⟨none, .store 4 (.t 2) (.t 19), none⟩, ⟨some 3, .mov (.c (.bool true)), none⟩]) .ret)
def impl_nextTok_b11 : HCode := (.seq (.reg [⟨some 23, .mov (.t 4), none⟩, ⟨some 24, .build [(.int .i64 0), (.str ⟨⟨[]⟩⟩), (.int .i64 0), (.int .i64 0)] [(0, 1, (.c (.int .i64 1))), (1, 1, (.t 23))], none⟩, ⟨none, .store 4 (.t 2) (.t 24), none⟩, ⟨some 3, .mov (.c (.bool true)), none⟩]) .ret)
def impl_nextTok_b10 : HCode := (.cond (.t 20) impl_nextTok_b11 .skip)
def impl_nextTok_b9 : HCode := (.seq (.reg [⟨some 21, .mov (.t 4), none⟩, ⟨some 22, .call (.c (.fn F.impl_NameOk [] [])) [(.t 21)], none⟩, ⟨some 20, .mov (.t 22), none⟩]) impl_nextTok_b10)
def impl_nextTok_b7 : HCode := (.cond (.t 14) impl_nextTok_b8 impl_nextTok_b9)
def impl_nextTok_b5 : HCode := (.seq (.block 1 (.seq (.reg [⟨some 15, .call (.c (.fn F.impl_words [] [])) [], none⟩, ⟨some 16, .mov (.t 4), none⟩, ⟨some 17, .call (.c (.fn F.slices_Contains_string [] [])) [(.t 15), (.t 16)], none⟩, ⟨some 14, .mov (.t 17), none⟩]) impl_nextTok_b7)) impl_nextTok_b6)
def impl_nextTok_b4 : HCode := (.seq (.reg [⟨some 10, .mov (.t 0), none⟩, ⟨some 11, .mov (.t 0), none⟩, ⟨some 12, .call (.c (.fn F.impl_runLen [] [])) [(.t 11), (.c (.fn F.impl_nextTok_1 [] []))], none⟩, ⟨some 13, .substr (.t 10) none (some (.t 12)), none⟩, ⟨some 4, .mov (.t 13), none⟩]) impl_nextTok_b5)
def impl_nextTok_b15 : HCode := (.seq (.reg [⟨some 37, .mov (.t 5), none⟩, ⟨some 38, .build [(.int .i64 0), (.str ⟨⟨[]⟩⟩), (.int .i64 0), (.int .i64 0)] [(0, 1, (.c (.int .i64 3))), (1, 1, (.t 37))], none⟩, ⟨some 39, .mov (.t 5), none⟩, ⟨some 40, .call (.c (.fn F.impl_numberLike [] [])) [(.t 39)], none⟩, ⟨none, .store 4 (.t 2) (.t 38), none⟩, ⟨some 3, .mov (.t 40), none⟩]) .ret)
def impl_nextTok_b14 : HCode := (.seq (.reg [⟨some 33, .mov (.t 0), none⟩, ⟨some 34, .mov (.t 0), none⟩, ⟨some 35, .call (.c (.fn F.impl_runLen [] [])) [(.t 34), (.c (.fn F.impl_isDigit [] []))], none⟩, ⟨some 36, .substr (.t 33) none (some (.t 35)), none⟩, ⟨some 5, .mov (.t 36), none⟩]) impl_nextTok_b15)
def impl_nextTok_b18 : HCode := (.seq (.reg [⟨some 48, .mov (.t 0), none⟩, ⟨some 49, .substr (.t 48) none (some (.c (.int .i64 2))), none⟩, ⟨some 50, .build [(.int .i64 0), (.str ⟨⟨[]⟩⟩), (.int .i64 0), (.int .i64 0)] [(0, 1, (.c (.int .i64 5))), (1, 1, (.t 49))], none⟩, ⟨none, .store 4 (.t 2) (.t 50), none⟩, ⟨some 3, .mov (.c (.bool true)), none⟩]) .ret)
def impl_nextTok_b17 : HCode := (.cond (.t 41) impl_nextTok_b18 .skip)
def impl_nextTok_b16 : HCode := (.seq (.reg [⟨some 42, .mov (.t 0), none⟩, ⟨some 43, .call (.c (.fn F.strings_HasPrefix [] [])) [(.t 42), (.c (.str ⟨⟨[45, 62]⟩⟩))], none⟩, ⟨some 44, .mov (.t 43), none⟩, ⟨some 45, .mov (.t 0), some (44, false)⟩, ⟨some 46, .call (.c (.fn F.strings_HasPrefix [] [])) [(.t 45), (.c (.str ⟨⟨[61, 61]⟩⟩))], some (44, false)⟩, ⟨some 47, .pick (.t 44) (.c (.bool true)) (.t 46), none⟩, ⟨some 41, .mov (.t 47), none⟩]) impl_nextTok_b17)
def impl_nextTok_b13 : HCode := (.cond (.t 29) impl_nextTok_b14 impl_nextTok_b16)
def impl_nextTok_b12 : HCode := (.seq (.reg [⟨some 30, .mov (.t 0), none⟩, ⟨some 31, .idx (.t 30) (.c (.int .i64 0)), none⟩, ⟨some 32, .call (.c (.fn F.impl_isDigit [] [])) [(.t 31)], none⟩, ⟨some 29, .mov (.t 32), none⟩]) impl_nextTok_b13)
def impl_nextTok_b3 : HCode := (.cond (.t 6) impl_nextTok_b4 impl_nextTok_b12)
def impl_nextTok_b1 : HCode := (.seq (.block 0 (.seq (.reg [⟨some 7, .mov (.t 0), none⟩, ⟨some 8, .idx (.t 7) (.c (.int .i64 0)), none⟩, ⟨some 9, .call (.c (.fn F.impl_isLetter [] [])) [(.t 8)], none⟩, ⟨some 6, .mov (.t 9), none⟩]) impl_nextTok_b3)) impl_nextTok_b2)
def impl_nextTok_b0 : HCode := (.seq (.reg [⟨some 2, .alloc (.agg [(.int .i64 0), (.str ⟨⟨[]⟩⟩), (.int .i64 0), (.int .i64 0)]), none⟩, ⟨some 3, .mov (.c (.bool false)), none⟩]) impl_nextTok_b1)
def impl_nextTok : HFunc := { np := 1, ntmps := 59, results := [(2, some (true, 4)), (3, none)], body := impl_nextTok_b0 }
def impl_Lex_b7 : HCode := (.seq (.reg [⟨some 73, .mov (.t 4), none⟩, ⟨some 2, .mov (.t 73), none⟩, ⟨some 3, .mov (.c (.bool true)), none⟩]) .ret)
def impl_Lex_b9 : HCode := (.seq (.reg [⟨some 2, .mov (.c .nils), none⟩, ⟨some 3, .mov (.c (.bool false)), none⟩]) .ret)
def impl_Lex_b8 : HCode := (.cond (.t 72) impl_Lex_b9 .skip)
def impl_Lex_b6 : HCode := (.seq (.seq (.reg [⟨some 70, .mov (.t 4), none⟩, ⟨some 71, .len (.t 70), none⟩, ⟨some 72, .bin .gtr (.t 71) (.c (.int .i64 400)), none⟩]) impl_Lex_b8) impl_Lex_b7)
def impl_Lex_b5 : HCode := (.seq (.reg [⟨some 61, .mov (.t 4), none⟩, ⟨some 62, .mov (.t 5), none⟩, ⟨some 63, .mov (.t 7), none⟩, ⟨some 64, .mov (.t 6), none⟩, ⟨some 65, .bin .sub (.t 63) (.t 64), none⟩, ⟨some 66, .bin .add (.t 65) (.c (.int .i64 1)), none⟩, ⟨some 67, .build [(.int .i64 0), (.str ⟨⟨[]⟩⟩), (.int .i64 0), (.int .i64 0)] [(0, 1, (.c (.int .i64 6))), (2, 1, (.t 62)), (3, 1, (.t 66))], none⟩, ⟨some 68, .bslice 4 1 [(.int .i64 0), (.str ⟨⟨[]⟩⟩), (.int .i64 0), (.int .i64 0)] [(0, (.t 67))], none⟩, ⟨some 69, .append 4 40 (.t 61) (.t 68), none⟩, ⟨some 4, .mov (.t 69), none⟩]) impl_Lex_b6)
def impl_Lex_b16 : HCode := (.reg [⟨some 56, .mov (.t 7), none⟩, ⟨some 57, .faddr 1 (.t 9), none⟩, ⟨some 58, .load false 1 (.t 57), none⟩, ⟨some 59, .slen (.t 58), none⟩, ⟨some 60, .bin .add (.t 56) (.t 59), none⟩, ⟨some 7, .mov (.t 60), none⟩])
def impl_Lex_b15 : HCode := (.seq (.reg [⟨some 52, .mov (.t 4), none⟩, ⟨some 53, .load true 4 (.t 9), none⟩, ⟨some 54, .bslice 4 1 [(.int .i64 0), (.str ⟨⟨[]⟩⟩), (.int .i64 0), (.int .i64 0)] [(0, (.t 53))], none⟩, ⟨some 55, .append 4 40 (.t 52) (.t 54), none⟩, ⟨some 4, .mov (.t 55), none⟩]) impl_Lex_b16)
def impl_Lex_b14 : HCode := (.seq (.reg [⟨some 45, .mov (.t 5), none⟩, ⟨some 46, .mov (.t 7), none⟩, ⟨some 47, .mov (.t 6), none⟩, ⟨some 48, .bin .sub (.t 46) (.t 47), none⟩, ⟨some 49, .bin .add (.t 48) (.c (.int .i64 1)), none⟩, ⟨some 50, .faddr 2 (.t 9), none⟩, ⟨none, .store 1 (.t 50) (.t 45), none⟩, ⟨some 51, .faddr 3 (.t 9), none⟩, ⟨none, .store 1 (.t 51) (.t 49), none⟩]) impl_Lex_b15)
def impl_Lex_b18 : HCode := (.seq (.reg [⟨some 2, .mov (.c .nils), none⟩, ⟨some 3, .mov (.c (.bool false)), none⟩]) .ret)
def impl_Lex_b17 : HCode := (.cond (.t 44) impl_Lex_b18 .skip)
def impl_Lex_b13 : HCode := (.seq (.seq (.reg [⟨some 43, .mov (.t 10), none⟩, ⟨some 44, .not (.t 43), none⟩]) impl_Lex_b17) impl_Lex_b14)
def impl_Lex_b12 : HCode := (.seq (.reg [⟨some 37, .mov (.t 0), none⟩, ⟨some 38, .mov (.t 7), none⟩, ⟨some 39, .substr (.t 37) (some (.t 38)) none, none⟩, ⟨some 40, .call (.c (.fn F.impl_nextTok [] [])) [(.t 39)], none⟩, ⟨some 36, .mov (.t 40), none⟩, ⟨some 41, .ext (.t 36) 0, none⟩, ⟨some 42, .ext (.t 36) 1, none⟩, ⟨some 9, .alloc (.agg [(.int .i64 0), (.str ⟨⟨[]⟩⟩), (.int .i64 0), (.int .i64 0)]), none⟩, ⟨none, .store 4 (.t 9) (.t 41), none⟩, ⟨some 10, .mov (.t 42), none⟩]) impl_Lex_b13)
def impl_Lex_b22 : HCode := (.seq (.reg [⟨some 33, .mov (.t 7), none⟩, ⟨some 34, .mov (.t 8), none⟩, ⟨some 35, .bin .add (.t 33) (.t 34), none⟩, ⟨some 7, .mov (.t 35), none⟩]) (.exit 1))
def impl_Lex_b25 : HCode := (.reg [⟨some 31, .mov (.t 7), none⟩, ⟨some 32, .bin .add (.t 31) (.c (.int .i64 1)), none⟩, ⟨some 6, .mov (.t 32), none⟩])
def impl_Lex_b24 : HCode := (.seq (.reg [⟨some 29, .mov (.t 5), none⟩, ⟨some 30, .bin .add (.t 29) (.c (.int .i64 1)), none⟩, ⟨some 5, .mov (.t 30), none⟩]) impl_Lex_b25)
def impl_Lex_b23 : HCode := (.cond (.t 28) impl_Lex_b24 .skip)
def impl_Lex_b21 : HCode := (.seq (.seq (.reg [⟨some 25, .mov (.t 0), none⟩, ⟨some 26, .mov (.t 7), none⟩, ⟨some 27, .idx (.t 25) (.t 26), none⟩, ⟨some 28, .bin .eql (.t 27) (.c (.int .u8 10)), none⟩]) impl_Lex_b23) impl_Lex_b22)
def impl_Lex_b20 : HCode := (.cond (.t 24) impl_Lex_b21 .skip)
def impl_Lex_b19 : HCode := (.seq (.reg [⟨some 23, .mov (.t 8), none⟩, ⟨some 24, .bin .gtr (.t 23) (.c (.int .i64 0)), none⟩]) impl_Lex_b20)
def impl_Lex_b11 : HCode := (.block 1 (.seq (.seq (.reg [⟨some 19, .mov (.t 0), none⟩, ⟨some 20, .mov (.t 7), none⟩, ⟨some 21, .substr (.t 19) (some (.t 20)) none, none⟩, ⟨some 22, .call (.c (.fn F.impl_passed [] [])) [(.t 21)], none⟩, ⟨some 8, .mov (.t 22), none⟩]) impl_Lex_b19) impl_Lex_b12))
def impl_Lex_b26 : HCode := (.cond (.t 18) .skip (.exit 0))
def impl_Lex_l10 : HCode := (.seq (.seq (.reg [⟨some 15, .mov (.t 7), none⟩, ⟨some 16, .mov (.t 0), none⟩, ⟨some 17, .slen (.t 16), none⟩, ⟨some 18, .bin .lss (.t 15) (.t 17), none⟩]) impl_Lex_b26) impl_Lex_b11)
def impl_Lex_b4 : HCode := (.seq (.block 0 (.loop impl_Lex_l10)) impl_Lex_b5)
def impl_Lex_b3 : HCode := (.seq (.reg [⟨some 5, .mov (.c (.int .i64 1)), none⟩, ⟨some 6, .mov (.c (.int .i64 0)), none⟩, ⟨some 7, .mov (.c (.int .i64 0)), none⟩]) impl_Lex_b4)
def impl_Lex_b2 : HCode := (.seq (.reg [⟨some 14, .bslice 4 0 [(.int .i64 0), (.str ⟨⟨[]⟩⟩), (.int .i64 0), (.int .i64 0)] [], none⟩, ⟨some 4, .mov (.t 14), none⟩]) impl_Lex_b3)
def impl_Lex_b28 : HCode := (.seq (.reg [⟨some 2, .mov (.c .nils), none⟩, ⟨some 3, .mov (.c (.bool false)), none⟩]) .ret)
def impl_Lex_b27 : HCode := (.cond (.t 13) impl_Lex_b28 .skip)
def impl_Lex_b1 : HCode := (.seq (.seq (.reg [⟨some 11, .mov (.t 0), none⟩, ⟨some 12, .slen (.t 11), none⟩, ⟨some 13, .bin .gtr (.t 12) (.c (.int .i64 1500)), none⟩]) impl_Lex_b27) impl_Lex_b2)
def impl_Lex_b0 : HCode := (.seq (.reg [⟨some 2, .mov (.c .nils), none⟩, ⟨some 3, .mov (.c (.bool false)), none⟩]) impl_Lex_b1)
def impl_Lex : HFunc := { np := 1, ntmps := 74, results := [(2, none), (3, none)], body := impl_Lex_b0 }
def impl_TokText_b3 : HCode := (.seq (.reg [⟨some 22, .mov (.t 3), none⟩, ⟨some 23, .call (.c (.fn F.strings_Join [] [])) [(.t 22), (.c (.str ⟨⟨[32]⟩⟩))], none⟩, ⟨some 2, .mov (.t 23), none⟩]) .ret)
def impl_TokText_b8 : HCode := (.reg [⟨some 21, .bin .add (.t 9) (.c (.int .i64 1)), none⟩, ⟨some 9, .mov (.t 21), none⟩])
def impl_TokText_b11 : HCode := (.reg [⟨some 16, .mov (.t 3), none⟩, ⟨some 17, .faddr 1 (.t 5), none⟩, ⟨some 18, .load false 1 (.t 17), none⟩, ⟨some 19, .bslice 1 1 [(.str ⟨⟨[]⟩⟩)] [(0, (.t 18))], none⟩, ⟨some 20, .append 1 16 (.t 16) (.t 19), none⟩, ⟨some 3, .mov (.t 20), none⟩])
def impl_TokText_b10 : HCode := (.cond (.t 15) impl_TokText_b11 .skip)
def impl_TokText_b9 : HCode := (.seq (.reg [⟨some 13, .faddr 0 (.t 5), none⟩, ⟨some 14, .load false 1 (.t 13), none⟩, ⟨some 15, .bin .neq (.t 14) (.c (.int .i64 6)), none⟩]) impl_TokText_b10)
def impl_TokText_b7 : HCode := (.seq (.block 1 (.seq (.reg [⟨some 11, .iaddr 4 (.t 7) (.t 9), none⟩, ⟨some 12, .load true 4 (.t 11), none⟩, ⟨some 5, .alloc (.agg [(.int .i64 0), (.str ⟨⟨[]⟩⟩), (.int .i64 0), (.int .i64 0)]), none⟩, ⟨none, .store 4 (.t 5) (.t 12), none⟩]) impl_TokText_b9)) impl_TokText_b8)
def impl_TokText_b6 : HCode := (.seq (.cond (.t 10) .skip (.exit 0)) impl_TokText_b7)
def impl_TokText_l5 : HCode := (.seq (.reg [⟨some 10, .bin .lss (.t 9) (.t 8), none⟩]) impl_TokText_b6)
def impl_TokText_b4 : HCode := (.block 0 (.loop impl_TokText_l5))
def impl_TokText_b2 : HCode := (.seq (.seq (.reg [⟨some 7, .mov (.t 0), none⟩, ⟨some 8, .len (.t 7), none⟩, ⟨some 9, .mov (.c (.int .i64 0)), none⟩]) impl_TokText_b4) impl_TokText_b3)
def impl_TokText_b1 : HCode := (.seq (.reg [⟨some 6, .bslice 1 0 [(.str ⟨⟨[]⟩⟩)] [], none⟩, ⟨some 3, .mov (.t 6), none⟩]) impl_TokText_b2)
def impl_TokText_b0 : HCode := (.seq (.reg [⟨some 2, .mov (.c (.str ⟨⟨[]⟩⟩)), none⟩]) impl_TokText_b1)
def impl_TokText : HFunc := { np := 1, ntmps := 24, results := [(2, none)], body := impl_TokText_b0 }
def spec_l1New_b3 : HCode := (.seq (.reg [⟨some 28, .mov (.t 0), none⟩, ⟨some 29, .mov (.t 3), none⟩, ⟨some 30, .build [.nils, (.int .i64 0), (.int .i64 0)] [(0, 1, (.t 28)), (2, 1, (.t 29))], none⟩, ⟨some 31, .box (.t 30), none⟩, ⟨some 2, .mov (.t 31), none⟩]) .ret)
def spec_l1New_b7 : HCode := (.reg [⟨some 16, .mov (.t 4), none⟩, ⟨some 17, .bin .add (.t 16) (.c (.int .i64 1)), none⟩, ⟨some 4, .mov (.t 17), none⟩])
def spec_l1New_b6 : HCode := (.seq (.block 1 (.reg [⟨some 18, .mov (.t 3), none⟩, ⟨some 19, .bin .mul (.t 18) (.c (.int .i64 137)), none⟩, ⟨some 20, .mov (.t 0), none⟩, ⟨some 21, .mov (.t 4), none⟩, ⟨some 22, .iaddr 1 (.t 20) (.t 21), none⟩, ⟨some 23, .load false 1 (.t 22), none⟩, ⟨some 24, .conv .i64 (.t 23), none⟩, ⟨some 25, .bin .add (.t 19) (.t 24), none⟩, ⟨some 26, .bin .add (.t 25) (.c (.int .i64 11)), none⟩, ⟨some 27, .bin .and (.t 26) (.c (.int .i64 1073741823)), none⟩, ⟨some 3, .mov (.t 27), none⟩])) spec_l1New_b7)
def spec_l1New_b8 : HCode := (.cond (.t 15) .skip (.exit 0))
def spec_l1New_l5 : HCode := (.seq (.seq (.reg [⟨some 8, .mov (.t 4), none⟩, ⟨some 9, .mov (.t 0), none⟩, ⟨some 10, .len (.t 9), none⟩, ⟨some 11, .bin .lss (.t 8) (.t 10), none⟩, ⟨some 12, .mov (.t 11), none⟩, ⟨some 13, .mov (.t 4), some (12, true)⟩, ⟨some 14, .bin .lss (.t 13) (.c (.int .i64 4000)), some (12, true)⟩, ⟨some 15, .pick (.t 12) (.t 14) (.c (.bool false)), none⟩]) spec_l1New_b8) spec_l1New_b6)
def spec_l1New_b4 : HCode := (.block 0 (.loop spec_l1New_l5))
def spec_l1New_b2 : HCode := (.seq (.seq (.reg [⟨some 4, .mov (.c (.int .i64 0)), none⟩]) spec_l1New_b4) spec_l1New_b3)
def spec_l1New_b1 : HCode := (.seq (.reg [⟨some 5, .mov (.t 0), none⟩, ⟨some 6, .len (.t 5), none⟩, ⟨some 7, .bin .add (.c (.int .i64 945945)) (.t 6), none⟩, ⟨some 3, .mov (.t 7), none⟩]) spec_l1New_b2)
def spec_l1New_b0 : HCode := (.seq (.reg [⟨some 2, .mov (.c .nilp), none⟩]) spec_l1New_b1)
def spec_l1New : HFunc := { np := 1, ntmps := 32, results := [(2, none)], body := spec_l1New_b0 }
def spec_l1Byte_b4 : HCode := (.seq (.reg [⟨some 57, .mov (.t 3), none⟩, ⟨some 2, .mov (.t 57), none⟩]) .ret)
def spec_l1Byte_b7 : HCode := (.reg [⟨some 49, .mov (.t 0), none⟩, ⟨some 50, .mov (.t 0), none⟩, ⟨some 51, .nilchk (.t 50), none⟩, ⟨some 52, .faddr 1 (.t 51), none⟩, ⟨some 53, .load false 1 (.t 52), none⟩, ⟨some 54, .bin .add (.t 53) (.c (.int .i64 1)), none⟩, ⟨some 55, .nilchk (.t 49), none⟩, ⟨some 56, .faddr 1 (.t 55), none⟩, ⟨none, .store 1 (.t 56) (.t 54), none⟩])
def spec_l1Byte_b6 : HCode := (.seq (.dreg (.q ⟨some 35, .mov (.t 3), none⟩ (.q ⟨some 36, .mov (.t 0), none⟩ (.q ⟨some 37, .nilchk (.t 36), none⟩ (.q ⟨some 38, .faddr 0 (.t 37), none⟩ (.q ⟨some 39, .load false 1 (.t 38), none⟩ (.q ⟨some 40, .mov (.t 0), none⟩ (.q ⟨some 41, .nilchk (.t 40), none⟩ (.q ⟨some 42, .faddr 1 (.t 41), none⟩ (.q ⟨some 43, .load false 1 (.t 42), none⟩ (.q ⟨some 44, .iaddr 1 (.t 39) (.t 43), none⟩ (.q ⟨some 45, .load false 1 (.t 44), none⟩ (.q ⟨some 46, .conv .i64 (.t 45), none⟩ (.q ⟨some 47, .bin .add (.t 35) (.t 46), none⟩ (.q ⟨some 48, .bin .and (.t 47) (.c (.int .i64 255)), none⟩ (.l ⟨some 3, .mov (.t 48), none⟩ [] .done .none)))))))))))))))) spec_l1Byte_b7)
def spec_l1Byte_b5 : HCode := (.cond (.t 34) spec_l1Byte_b6 .skip)
def spec_l1Byte_b3 : HCode := (.seq (.seq (.dreg (.q ⟨some 25, .mov (.t 0), none⟩ (.q ⟨some 26, .nilchk (.t 25), none⟩ (.q ⟨some 27, .faddr 1 (.t 26), none⟩ (.q ⟨some 28, .load false 1 (.t 27), none⟩ (.q ⟨some 29, .mov (.t 0), none⟩ (.q ⟨some 30, .nilchk (.t 29), none⟩ (.q ⟨some 31, .faddr 0 (.t 30), none⟩ (.q ⟨some 32, .load false 1 (.t 31), none⟩ (.q ⟨some 33, .len (.t 32), none⟩ (.q ⟨some 34, .bin .lss (.t 28) (.t 33), none⟩ .done))))))))))) spec_l1Byte_b5) spec_l1Byte_b4)
def spec_l1Byte_b2 : HCode := (.seq (.dreg (.q ⟨some 13, .mov (.t 0), none⟩ (.q ⟨some 14, .nilchk (.t 13), none⟩ (.q ⟨some 15, .faddr 2 (.t 14), none⟩ (.q ⟨some 16, .load false 1 (.t 15), none⟩ (.q ⟨some 17, .shft .shr (.t 16) (.c (.int .u64 33)), none⟩ (.q ⟨some 18, .mov (.t 0), none⟩ (.q ⟨some 19, .nilchk (.t 18), none⟩ (.q ⟨some 20, .faddr 2 (.t 19), none⟩ (.q ⟨some 21, .load false 1 (.t 20), none⟩ (.q ⟨some 22, .shft .shr (.t 21) (.c (.int .u64 47)), none⟩ (.q ⟨some 23, .bin .xor (.t 17) (.t 22), none⟩ (.q ⟨some 24, .bin .and (.t 23) (.c (.int .i64 255)), none⟩ (.q ⟨some 3, .mov (.t 24), none⟩ .done)))))))))))))) spec_l1Byte_b3)
def spec_l1Byte_b1 : HCode := (.seq (.reg [⟨some 4, .mov (.t 0), none⟩, ⟨some 5, .mov (.t 0), none⟩, ⟨some 6, .nilchk (.t 5), none⟩, ⟨some 7, .faddr 2 (.t 6), none⟩, ⟨some 8, .load false 1 (.t 7), none⟩, ⟨some 9, .bin .mul (.t 8) (.c (.int .i64 6364136223846793005)), none⟩, ⟨some 10, .bin .add (.t 9) (.c (.int .i64 1442695040888963407)), none⟩, ⟨some 11, .nilchk (.t 4), none⟩, ⟨some 12, .faddr 2 (.t 11), none⟩, ⟨none, .store 1 (.t 12) (.t 10), none⟩]) spec_l1Byte_b2)
def spec_l1Byte_b0 : HCode := (.seq (.reg [⟨some 2, .mov (.c (.int .i64 0)), none⟩]) spec_l1Byte_b1)
def spec_l1Byte : HFunc := { np := 1, ntmps := 58, results := [(2, none)], body := spec_l1Byte_b0 }
def spec_l1Below_b6 : HCode := (.seq (.reg [⟨some 22, .mov (.t 5), none⟩, ⟨some 23, .bin .mul (.t 22) (.c (.int .i64 65536)), none⟩, ⟨some 24, .mov (.t 6), none⟩, ⟨some 25, .bin .mul (.t 24) (.c (.int .i64 256)), none⟩, ⟨some 26, .bin .add (.t 23) (.t 25), none⟩, ⟨some 27, .mov (.t 7), none⟩, ⟨some 28, .bin .add (.t 26) (.t 27), none⟩, ⟨some 29, .mov (.t 1), none⟩, ⟨some 30, .bin .rem (.t 28) (.t 29), none⟩, ⟨some 4, .mov (.t 30), none⟩]) .ret)
def spec_l1Below_b5 : HCode := (.seq (.reg [⟨some 20, .mov (.t 0), none⟩, ⟨some 21, .call (.c (.fn F.spec_l1Byte [] [])) [(.t 20)], none⟩, ⟨some 7, .mov (.t 21), none⟩]) spec_l1Below_b6)
def spec_l1Below_b4 : HCode := (.seq (.reg [⟨some 18, .mov (.t 0), none⟩, ⟨some 19, .call (.c (.fn F.spec_l1Byte [] [])) [(.t 18)], none⟩, ⟨some 6, .mov (.t 19), none⟩]) spec_l1Below_b5)
def spec_l1Below_b3 : HCode := (.seq (.reg [⟨some 16, .mov (.t 0), none⟩, ⟨some 17, .call (.c (.fn F.spec_l1Byte [] [])) [(.t 16)], none⟩, ⟨some 5, .mov (.t 17), none⟩]) spec_l1Below_b4)
def spec_l1Below_b8 : HCode := (.seq (.reg [⟨some 12, .mov (.t 0), none⟩, ⟨some 13, .call (.c (.fn F.spec_l1Byte [] [])) [(.t 12)], none⟩, ⟨some 14, .mov (.t 1), none⟩, ⟨some 15, .bin .rem (.t 13) (.t 14), none⟩, ⟨some 4, .mov (.t 15), none⟩]) .ret)
def spec_l1Below_b7 : HCode := (.cond (.t 11) spec_l1Below_b8 .skip)
def spec_l1Below_b2 : HCode := (.seq (.seq (.reg [⟨some 10, .mov (.t 1), none⟩, ⟨some 11, .bin .leq (.t 10) (.c (.int .i64 256)), none⟩]) spec_l1Below_b7) spec_l1Below_b3)
def spec_l1Below_b10 : HCode := (.seq (.reg [⟨some 4, .mov (.c (.int .i64 0)), none⟩]) .ret)
def spec_l1Below_b9 : HCode := (.cond (.t 9) spec_l1Below_b10 .skip)
def spec_l1Below_b1 : HCode := (.seq (.seq (.reg [⟨some 8, .mov (.t 1), none⟩, ⟨some 9, .bin .leq (.t 8) (.c (.int .i64 0)), none⟩]) spec_l1Below_b9) spec_l1Below_b2)
def spec_l1Below_b0 : HCode := (.seq (.reg [⟨some 4, .mov (.c (.int .i64 0)), none⟩]) spec_l1Below_b1)
def spec_l1Below : HFunc := { np := 2, ntmps := 31, results := [(4, none)], body := spec_l1Below_b0 }
def spec_l1Str_b1 : HCode := (.seq (.reg [⟨some 5, .mov (.t 1), none⟩, ⟨some 6, .mov (.t 0), none⟩, ⟨some 7, .mov (.t 1), none⟩, ⟨some 8, .len (.t 7), none⟩, ⟨some 9, .call (.c (.fn F.spec_l1Below [] [])) [(.t 6), (.t 8)], none⟩, ⟨some 10, .iaddr 1 (.t 5) (.t 9), none⟩, ⟨some 11, .load false 1 (.t 10), none⟩, ⟨some 4, .mov (.t 11), none⟩]) .ret)
def spec_l1Str_b0 : HCode := (.seq (.reg [⟨some 4, .mov (.c (.str ⟨⟨[]⟩⟩)), none⟩]) spec_l1Str_b1)
def spec_l1Str : HFunc := { np := 2, ntmps := 12, results := [(4, none)], body := spec_l1Str_b0 }
def spec_DrawNameOk_b2 : HCode := (.seq (.reg [⟨some 6, .mov (.t 3), none⟩, ⟨some 7, .bslice 1 11 [(.str ⟨⟨[]⟩⟩)] [(0, (.c (.str ⟨⟨[]⟩⟩))), (1, (.c (.str ⟨⟨[97]⟩⟩))), (2, (.c (.str ⟨⟨[97, 66, 57]⟩⟩))), (3, (.c (.str ⟨⟨[108, 101, 116]⟩⟩))), (4, (.c (.str ⟨⟨[65]⟩⟩))), (5, (.c (.str ⟨⟨[95]⟩⟩))), (6, (.c (.str ⟨⟨[101, 105, 103, 104, 116, 108, 101, 116]⟩⟩))), (7, (.c (.str ⟨⟨[110, 105, 110, 101, 108, 101, 116, 116, 115]⟩⟩))), (8, (.c (.str ⟨⟨[97, 95]⟩⟩))), (9, (.c (.str ⟨⟨[57]⟩⟩))), (10, (.c (.str ⟨⟨[111, 102]⟩⟩)))], none⟩, ⟨some 8, .call (.c (.fn F.spec_l1Str [] [])) [(.t 6), (.t 7)], none⟩, ⟨some 2, .mov (.t 8), none⟩]) .ret)
def spec_DrawNameOk_b1 : HCode := (.seq (.reg [⟨some 4, .mov (.t 0), none⟩, ⟨some 5, .call (.c (.fn F.spec_l1New [] [])) [(.t 4)], none⟩, ⟨some 3, .mov (.t 5), none⟩]) spec_DrawNameOk_b2)
def spec_DrawNameOk_b0 : HCode := (.seq (.reg [⟨some 2, .mov (.c (.str ⟨⟨[]⟩⟩)), none⟩]) spec_DrawNameOk_b1)
def spec_DrawNameOk : HFunc := { np := 1, ntmps := 9, results := [(2, none)], body := spec_DrawNameOk_b0 }
def laws_sameToks_b3 : HCode := (.seq (.reg [⟨some 4, .mov (.c (.bool true)), none⟩]) .ret)
def laws_sameToks_b7 : HCode := (.reg [⟨some 15, .mov (.t 5), none⟩, ⟨some 16, .bin .add (.t 15) (.c (.int .i64 1)), none⟩, ⟨some 5, .mov (.t 16), none⟩])
def laws_sameToks_b9 : HCode := (.seq (.reg [⟨some 4, .mov (.c (.bool false)), none⟩]) .ret)
def laws_sameToks_b8 : HCode := (.cond (.t 25) laws_sameToks_b9 .skip)
def laws_sameToks_b6 : HCode := (.seq (.block 1 (.seq (.dreg (.q ⟨some 17, .mov (.t 0), none⟩ (.q ⟨some 18, .mov (.t 5), none⟩ (.q ⟨some 19, .iaddr 4 (.t 17) (.t 18), none⟩ (.q ⟨some 20, .load true 4 (.t 19), none⟩ (.q ⟨some 21, .mov (.t 1), none⟩ (.q ⟨some 22, .mov (.t 5), none⟩ (.q ⟨some 23, .iaddr 4 (.t 21) (.t 22), none⟩ (.q ⟨some 24, .load true 4 (.t 23), none⟩ (.q ⟨some 25, .abin [0, 2, 0, 0] true (.t 20) (.t 24), none⟩ .done)))))))))) laws_sameToks_b8)) laws_sameToks_b7)
def laws_sameToks_b10 : HCode := (.cond (.t 14) .skip (.exit 0))
def laws_sameToks_l5 : HCode := (.seq (.seq (.reg [⟨some 11, .mov (.t 5), none⟩, ⟨some 12, .mov (.t 0), none⟩, ⟨some 13, .len (.t 12), none⟩, ⟨some 14, .bin .lss (.t 11) (.t 13), none⟩]) laws_sameToks_b10) laws_sameToks_b6)
def laws_sameToks_b4 : HCode := (.block 0 (.loop laws_sameToks_l5))
def laws_sameToks_b2 : HCode := (.seq (.seq (.reg [⟨some 5, .mov (.c (.int .i64 0)), none⟩]) laws_sameToks_b4) laws_sameToks_b3)
def laws_sameToks_b12 : HCode := (.seq (.reg [⟨some 4, .mov (.c (.bool false)), none⟩]) .ret)
def laws_sameToks_b11 : HCode := (.cond (.t 10) laws_sameToks_b12 .skip)
def laws_sameToks_b1 : HCode := (.seq (.seq (.reg [⟨some 6, .mov (.t 0), none⟩, ⟨some 7, .len (.t 6), none⟩, ⟨some 8, .mov (.t 1), none⟩, ⟨some 9, .len (.t 8), none⟩, ⟨some 10, .bin .neq (.t 7) (.t 9), none⟩]) laws_sameToks_b11) laws_sameToks_b2)
def laws_sameToks_b0 : HCode := (.seq (.reg [⟨some 4, .mov (.c (.bool false)), none⟩]) laws_sameToks_b1)
def laws_sameToks : HFunc := { np := 2, ntmps := 26, results := [(4, none)], body := laws_sameToks_b0 }
def laws_big_b1 : HCode := (.seq (.reg [⟨some 3, .mov (.t 0), none⟩, ⟨some 4, .len (.t 3), none⟩, ⟨some 5, .bin .gtr (.t 4) (.c (.int .i64 1048576)), none⟩, ⟨some 2, .mov (.t 5), none⟩]) .ret)
def laws_big_b0 : HCode := (.seq (.reg [⟨some 2, .mov (.c (.bool false)), none⟩]) laws_big_b1)
def laws_big : HFunc := { np := 1, ntmps := 6, results := [(2, none)], body := laws_big_b0 }
def spec_DrawGreatOk_b2 : HCode := (.seq (.reg [⟨some 6, .mov (.t 3), none⟩, ⟨some 7, .bslice 1 8 [(.str ⟨⟨[]⟩⟩)] [(0, (.c (.str ⟨⟨[]⟩⟩))), (1, (.c (.str ⟨⟨[65]⟩⟩))), (2, (.c (.str ⟨⟨[65, 98, 57]⟩⟩))), (3, (.c (.str ⟨⟨[97]⟩⟩))), (4, (.c (.str ⟨⟨[69, 73, 71, 72, 84, 76, 69, 84]⟩⟩))), (5, (.c (.str ⟨⟨[78, 73, 78, 69, 76, 69, 84, 84, 83]⟩⟩))), (6, (.c (.str ⟨⟨[65, 95]⟩⟩))), (7, (.c (.str ⟨⟨[84, 114, 117, 101]⟩⟩)))], none⟩, ⟨some 8, .call (.c (.fn F.spec_l1Str [] [])) [(.t 6), (.t 7)], none⟩, ⟨some 2, .mov (.t 8), none⟩]) .ret)
def spec_DrawGreatOk_b1 : HCode := (.seq (.reg [⟨some 4, .mov (.t 0), none⟩, ⟨some 5, .call (.c (.fn F.spec_l1New [] [])) [(.t 4)], none⟩, ⟨some 3, .mov (.t 5), none⟩]) spec_DrawGreatOk_b2)
def spec_DrawGreatOk_b0 : HCode := (.seq (.reg [⟨some 2, .mov (.c (.str ⟨⟨[]⟩⟩)), none⟩]) spec_DrawGreatOk_b1)
def spec_DrawGreatOk : HFunc := { np := 1, ntmps := 9, results := [(2, none)], body := spec_DrawGreatOk_b0 }
def spec_l1Prog_b1 : HCode := (.seq (.reg [⟨some 3, .mov (.t 0), none⟩, ⟨some 4, .bslice 1 9 [(.str ⟨⟨[]⟩⟩)] [(0, (.c (.str ⟨⟨[109, 97, 105, 110, 32, 61, 32, 49]⟩⟩))), (1, (.c (.str ⟨⟨[109, 97, 105, 110, 32, 61, 32, 102, 32, 51, 10, 102, 32, 120, 32, 61, 32, 120, 32, 43, 32, 49]⟩⟩))), (2, (.c (.str ⟨⟨[100, 97, 116, 97, 32, 84, 32, 61, 32, 65, 32, 124, 32, 66, 32, 73, 110, 116, 10, 109, 97, 105, 110, 32, 61, 32, 99, 97, 115, 101, 32, 66, 32, 53, 32, 111, 102, 10, 32, 32, 65, 32, 45, 62, 32, 48, 10, 32, 32, 66, 32, 110, 32, 45, 62, 32, 110]⟩⟩))), (3, (.c (.str ⟨⟨[109, 97, 105, 110, 32, 61, 32, 108, 101, 116, 10, 32, 32, 32, 32, 120, 32, 61, 32, 50, 10, 32, 32, 32, 32, 121, 32, 61, 32, 120, 32, 42, 32, 120, 10, 32, 32, 105, 110, 32, 121]⟩⟩))), (4, (.c (.str ⟨⟨[102, 32, 120, 32, 61, 32, 103, 32, 120, 10, 32, 32, 119, 104, 101, 114, 101, 10, 32, 32, 32, 32, 103, 32, 121, 32, 61, 32, 121, 32, 43, 32, 120, 10, 109, 97, 105, 110, 32, 61, 32, 102, 32, 52]⟩⟩))), (5, (.c (.str ⟨⟨[100, 97, 116, 97, 32, 76, 32, 61, 32, 78, 32, 124, 32, 67, 32, 73, 110, 116, 32, 76, 10, 115, 117, 109, 32, 108, 32, 61, 32, 99, 97, 115, 101, 32, 108, 32, 111, 102, 10, 32, 32, 78, 32, 45, 62, 32, 48, 10, 32, 32, 67, 32, 104, 32, 116, 32, 45, 62, 32, 104, 32, 43, 32, 115, 117, 109, 32, 116, 10, 109, 97, 105, 110, 32, 61, 32, 115, 117, 109, 32, 40, 67, 32, 49, 32, 40, 67, 32, 50, 32, 78, 41, 41]⟩⟩))), (6, (.c (.str ⟨⟨[109, 97, 105, 110, 32, 61, 32, 105, 102, 32, 49, 32, 60, 32, 50, 32, 116, 104, 101, 110, 32, 40, 92, 120, 32, 45, 62, 32, 120, 41, 32, 55, 32, 101, 108, 115, 101, 32, 109, 97, 105, 110]⟩⟩))), (7, (.c (.str ⟨⟨[116, 119, 105, 99, 101, 32, 102, 32, 120, 32, 61, 32, 102, 32, 40, 102, 32, 120, 41, 10, 109, 97, 105, 110, 32, 61, 32, 116, 119, 105, 99, 101, 32, 40, 92, 110, 32, 45, 62, 32, 110, 32, 42, 32, 50, 41, 32, 51]⟩⟩))), (8, (.c (.str ⟨⟨[111, 110, 101, 115, 32, 61, 32, 67, 32, 49, 32, 111, 110, 101, 115, 10, 100, 97, 116, 97, 32, 76, 32, 61, 32, 78, 32, 124, 32, 67, 32, 73, 110, 116, 32, 76, 10, 104, 100, 32, 108, 32, 61, 32, 99, 97, 115, 101, 32, 108, 32, 111, 102, 10, 32, 32, 67, 32, 104, 32, 116, 32, 45, 62, 32, 104, 10, 109, 97, 105, 110, 32, 61, 32, 104, 100, 32, 111, 110, 101, 115]⟩⟩)))], none⟩, ⟨some 5, .call (.c (.fn F.spec_l1Str [] [])) [(.t 3), (.t 4)], none⟩, ⟨some 2, .mov (.t 5), none⟩]) .ret)
def spec_l1Prog_b0 : HCode := (.seq (.reg [⟨some 2, .mov (.c (.str ⟨⟨[]⟩⟩)), none⟩]) spec_l1Prog_b1)
def spec_l1Prog : HFunc := { np := 1, ntmps := 6, results := [(2, none)], body := spec_l1Prog_b0 }
def spec_l1Word_b1 : HCode := (.seq (.reg [⟨some 3, .mov (.t 0), none⟩, ⟨some 4, .bslice 1 31 [(.str ⟨⟨[]⟩⟩)] [(0, (.c (.str ⟨⟨[97]⟩⟩))), (1, (.c (.str ⟨⟨[102]⟩⟩))), (2, (.c (.str ⟨⟨[120]⟩⟩))), (3, (.c (.str ⟨⟨[108, 101, 116]⟩⟩))), (4, (.c (.str ⟨⟨[105, 110]⟩⟩))), (5, (.c (.str ⟨⟨[119, 104, 101, 114, 101]⟩⟩))), (6, (.c (.str ⟨⟨[111, 102]⟩⟩))), (7, (.c (.str ⟨⟨[99, 97, 115, 101]⟩⟩))), (8, (.c (.str ⟨⟨[65]⟩⟩))), (9, (.c (.str ⟨⟨[84, 114, 117, 101]⟩⟩))), (10, (.c (.str ⟨⟨[48]⟩⟩))), (11, (.c (.str ⟨⟨[52, 50]⟩⟩))), (12, (.c (.str ⟨⟨[45, 62]⟩⟩))), (13, (.c (.str ⟨⟨[61, 61]⟩⟩))), (14, (.c (.str ⟨⟨[61]⟩⟩))), (15, (.c (.str ⟨⟨[40]⟩⟩))), (16, (.c (.str ⟨⟨[41]⟩⟩))), (17, (.c (.str ⟨⟨[92]⟩⟩))), (18, (.c (.str ⟨⟨[124]⟩⟩))), (19, (.c (.str ⟨⟨[43]⟩⟩))), (20, (.c (.str ⟨⟨[45]⟩⟩))), (21, (.c (.str ⟨⟨[42]⟩⟩))), (22, (.c (.str ⟨⟨[60]⟩⟩))), (23, (.c (.str ⟨⟨[95]⟩⟩))), (24, (.c (.str ⟨⟨[123]⟩⟩))), (25, (.c (.str ⟨⟨[125]⟩⟩))), (26, (.c (.str ⟨⟨[59]⟩⟩))), (27, (.c (.str ⟨⟨[100, 97, 116, 97]⟩⟩))), (28, (.c (.str ⟨⟨[105, 102]⟩⟩))), (29, (.c (.str ⟨⟨[116, 104, 101, 110]⟩⟩))), (30, (.c (.str ⟨⟨[101, 108, 115, 101]⟩⟩)))], none⟩, ⟨some 5, .call (.c (.fn F.spec_l1Str [] [])) [(.t 3), (.t 4)], none⟩, ⟨some 2, .mov (.t 5), none⟩]) .ret)
def spec_l1Word_b0 : HCode := (.seq (.reg [⟨some 2, .mov (.c (.str ⟨⟨[]⟩⟩)), none⟩]) spec_l1Word_b1)
def spec_l1Word : HFunc := { np := 1, ntmps := 6, results := [(2, none)], body := spec_l1Word_b0 }
def spec_l1Text_b3 : HCode := (.seq (.reg [⟨some 19, .mov (.t 3), none⟩, ⟨some 2, .mov (.t 19), none⟩]) .ret)
def spec_l1Text_b7 : HCode := (.reg [⟨some 9, .mov (.t 4), none⟩, ⟨some 10, .bin .sub (.t 9) (.c (.int .i64 1)), none⟩, ⟨some 4, .mov (.t 10), none⟩])
def spec_l1Text_b6 : HCode := (.seq (.block 1 (.reg [⟨some 11, .mov (.t 3), none⟩, ⟨some 12, .mov (.t 0), none⟩, ⟨some 13, .call (.c (.fn F.spec_l1Word [] [])) [(.t 12)], none⟩, ⟨some 14, .bin .add (.t 11) (.t 13), none⟩, ⟨some 15, .mov (.t 0), none⟩, ⟨some 16, .bslice 1 7 [(.str ⟨⟨[]⟩⟩)] [(0, (.c (.str ⟨⟨[32]⟩⟩))), (1, (.c (.str ⟨⟨[32]⟩⟩))), (2, (.c (.str ⟨⟨[32]⟩⟩))), (3, (.c (.str ⟨⟨[10]⟩⟩))), (4, (.c (.str ⟨⟨[10, 32, 32]⟩⟩))), (5, (.c (.str ⟨⟨[10, 32, 32, 32, 32]⟩⟩))), (6, (.c (.str ⟨⟨[]⟩⟩)))], none⟩, ⟨some 17, .call (.c (.fn F.spec_l1Str [] [])) [(.t 15), (.t 16)], none⟩, ⟨some 18, .bin .add (.t 14) (.t 17), none⟩, ⟨some 3, .mov (.t 18), none⟩])) spec_l1Text_b7)
def spec_l1Text_b8 : HCode := (.cond (.t 8) .skip (.exit 0))
def spec_l1Text_l5 : HCode := (.seq (.seq (.reg [⟨some 7, .mov (.t 4), none⟩, ⟨some 8, .bin .gtr (.t 7) (.c (.int .i64 0)), none⟩]) spec_l1Text_b8) spec_l1Text_b6)
def spec_l1Text_b4 : HCode := (.block 0 (.loop spec_l1Text_l5))
def spec_l1Text_b2 : HCode := (.seq (.seq (.reg [⟨some 5, .mov (.t 0), none⟩, ⟨some 6, .call (.c (.fn F.spec_l1Below [] [])) [(.t 5), (.c (.int .i64 14))], none⟩, ⟨some 4, .mov (.t 6), none⟩]) spec_l1Text_b4) spec_l1Text_b3)
def spec_l1Text_b1 : HCode := (.seq (.reg [⟨some 3, .mov (.c (.str ⟨⟨[]⟩⟩)), none⟩]) spec_l1Text_b2)
def spec_l1Text_b0 : HCode := (.seq (.reg [⟨some 2, .mov (.c (.str ⟨⟨[]⟩⟩)), none⟩]) spec_l1Text_b1)
def spec_l1Text : HFunc := { np := 1, ntmps := 20, results := [(2, none)], body := spec_l1Text_b0 }
def spec_l1Once_b1 : HCode := (.seq (.reg [⟨some 5, .mov (.t 0), none⟩, ⟨some 6, .mov (.t 1), none⟩, ⟨some 7, .call (.c (.fn F.spec_l1Below [] [])) [(.t 5), (.t 6)], none⟩, ⟨some 8, .bin .eql (.t 7) (.c (.int .i64 0)), none⟩, ⟨some 4, .mov (.t 8), none⟩]) .ret)
def spec_l1Once_b0 : HCode := (.seq (.reg [⟨some 4, .mov (.c (.bool false)), none⟩]) spec_l1Once_b1)
def spec_l1Once : HFunc := { np := 2, ntmps := 9, results := [(4, none)], body := spec_l1Once_b0 }
def spec_DrawLex_b5 : HCode := (.seq (.reg [⟨some 48, .mov (.t 4), none⟩, ⟨some 2, .mov (.t 48), none⟩]) .ret)
def spec_DrawLex_b7 : HCode := (.seq (.reg [⟨some 43, .mov (.t 3), none⟩, ⟨some 44, .call (.c (.fn F.spec_l1Below [] [])) [(.t 43), (.c (.int .i64 2))], none⟩, ⟨some 45, .bin .add (.c (.int .i64 1500)) (.t 44), none⟩, ⟨some 46, .mkslice 1 1 (.int .u8 0) (.t 45) (.t 45), none⟩, ⟨some 47, .bstr (.t 46), none⟩, ⟨some 2, .mov (.t 47), none⟩]) .ret)
def spec_DrawLex_b6 : HCode := (.cond (.t 42) spec_DrawLex_b7 .skip)
def spec_DrawLex_b4 : HCode := (.seq (.seq (.reg [⟨some 41, .mov (.t 3), none⟩, ⟨some 42, .call (.c (.fn F.spec_l1Once [] [])) [(.t 41), (.c (.int .i64 60))], none⟩]) spec_DrawLex_b6) spec_DrawLex_b5)
def spec_DrawLex_b10 : HCode := (.seq (.reg [⟨some 14, .mov (.t 4), none⟩, ⟨some 15, .mov (.t 3), none⟩, ⟨some 16, .bslice 1 10 [(.str ⟨⟨[]⟩⟩)] [(0, (.c (.str ⟨⟨[36]⟩⟩))), (1, (.c (.str ⟨⟨[9]⟩⟩))), (2, (.c (.str ⟨⟨[48, 49]⟩⟩))), (3, (.c (.str ⟨⟨[49, 50, 51, 52, 53, 54, 55]⟩⟩))), (4, (.c (.str ⟨⟨[110, 105, 110, 101, 108, 101, 116, 116, 115]⟩⟩))), (5, (.c (.str ⟨⟨[45, 45, 32, 104, 105]⟩⟩))), (6, (.c (.str ⟨⟨[45, 45]⟩⟩))), (7, (.c (.str ⟨⟨[45, 62, 120]⟩⟩))), (8, (.c (.str ⟨⟨[97, 45, 45, 98, 10, 99]⟩⟩))), (9, (.c (.str ⟨⟨[38]⟩⟩)))], none⟩, ⟨some 17, .call (.c (.fn F.spec_l1Str [] [])) [(.t 15), (.t 16)], none⟩, ⟨some 18, .bin .add (.t 14) (.t 17), none⟩, ⟨some 2, .mov (.t 18), none⟩]) .ret)
def spec_DrawLex_b14 : HCode := (.seq (.dreg (.q ⟨some 26, .mov (.t 4), none⟩ (.q ⟨some 27, .mov (.t 5), none⟩ (.q ⟨some 28, .substr (.t 26) none (some (.t 27)), none⟩ (.q ⟨some 29, .mov (.t 3), none⟩ (.q ⟨some 33, .mov (.t 4), none⟩ (.q ⟨some 34, .mov (.t 5), none⟩ (.q ⟨some 35, .substr (.t 33) (some (.t 34)) none, none⟩ (.l ⟨some 30, .bslice 1 5 [(.str ⟨⟨[]⟩⟩)] [(0, (.c (.str ⟨⟨[45, 45, 32, 120, 10]⟩⟩))), (1, (.c (.str ⟨⟨[10]⟩⟩))), (2, (.c (.str ⟨⟨[32]⟩⟩))), (3, (.c (.str ⟨⟨[255]⟩⟩))), (4, (.c (.str ⟨⟨[57]⟩⟩)))], none⟩ [⟨some 35, .substr (.t 33) (some (.t 34)) none, none⟩, ⟨some 34, .mov (.t 5), none⟩, ⟨some 33, .mov (.t 4), none⟩, ⟨some 29, .mov (.t 3), none⟩, ⟨some 28, .substr (.t 26) none (some (.t 27)), none⟩, ⟨some 27, .mov (.t 5), none⟩, ⟨some 26, .mov (.t 4), none⟩] (.l ⟨some 31, .call (.c (.fn F.spec_l1Str [] [])) [(.t 29), (.t 30)], none⟩ [⟨some 35, .substr (.t 33) (some (.t 34)) none, none⟩, ⟨some 34, .mov (.t 5), none⟩, ⟨some 33, .mov (.t 4), none⟩, ⟨some 28, .substr (.t 26) none (some (.t 27)), none⟩, ⟨some 27, .mov (.t 5), none⟩, ⟨some 26, .mov (.t 4), none⟩] (.q ⟨some 32, .bin .add (.t 28) (.t 31), none⟩ (.q ⟨some 36, .bin .add (.t 32) (.t 35), none⟩ (.q ⟨some 2, .mov (.t 36), none⟩ .done))) .none) .none))))))))) .ret)
def spec_DrawLex_b13 : HCode := (.seq (.reg [⟨some 21, .mov (.t 3), none⟩, ⟨some 22, .mov (.t 4), none⟩, ⟨some 23, .slen (.t 22), none⟩, ⟨some 24, .bin .add (.t 23) (.c (.int .i64 1)), none⟩, ⟨some 25, .call (.c (.fn F.spec_l1Below [] [])) [(.t 21), (.t 24)], none⟩, ⟨some 5, .mov (.t 25), none⟩]) spec_DrawLex_b14)
def spec_DrawLex_b17 : HCode := (.seq (.reg [⟨some 39, .mov (.t 3), none⟩, ⟨some 40, .call (.c (.fn F.spec_l1Prog [] [])) [(.t 39)], none⟩, ⟨some 2, .mov (.t 40), none⟩]) .ret)
def spec_DrawLex_b16 : HCode := (.cond (.t 37) spec_DrawLex_b17 .skip)
def spec_DrawLex_b15 : HCode := (.seq (.reg [⟨some 38, .bin .eql (.t 11) (.c (.int .i64 2)), none⟩, ⟨some 37, .mov (.t 38), none⟩]) spec_DrawLex_b16)
def spec_DrawLex_b12 : HCode := (.cond (.t 19) spec_DrawLex_b13 spec_DrawLex_b15)
def spec_DrawLex_b11 : HCode := (.seq (.reg [⟨some 20, .bin .eql (.t 11) (.c (.int .i64 1)), none⟩, ⟨some 19, .mov (.t 20), none⟩]) spec_DrawLex_b12)
def spec_DrawLex_b9 : HCode := (.cond (.t 12) spec_DrawLex_b10 spec_DrawLex_b11)
def spec_DrawLex_b8 : HCode := (.block 0 (.seq (.reg [⟨some 13, .bin .eql (.t 11) (.c (.int .i64 0)), none⟩, ⟨some 12, .mov (.t 13), none⟩]) spec_DrawLex_b9))
def spec_DrawLex_b3 : HCode := (.seq (.seq (.reg [⟨some 10, .mov (.t 3), none⟩, ⟨some 11, .call (.c (.fn F.spec_l1Below [] [])) [(.t 10), (.c (.int .i64 8))], none⟩]) spec_DrawLex_b8) spec_DrawLex_b4)
def spec_DrawLex_b2 : HCode := (.seq (.reg [⟨some 8, .mov (.t 3), none⟩, ⟨some 9, .call (.c (.fn F.spec_l1Text [] [])) [(.t 8)], none⟩, ⟨some 4, .mov (.t 9), none⟩]) spec_DrawLex_b3)
def spec_DrawLex_b1 : HCode := (.seq (.reg [⟨some 6, .mov (.t 0), none⟩, ⟨some 7, .call (.c (.fn F.spec_l1New [] [])) [(.t 6)], none⟩, ⟨some 3, .mov (.t 7), none⟩]) spec_DrawLex_b2)
def spec_DrawLex_b0 : HCode := (.seq (.reg [⟨some 2, .mov (.c (.str ⟨⟨[]⟩⟩)), none⟩]) spec_DrawLex_b1)
def spec_DrawLex : HFunc := { np := 1, ntmps := 49, results := [(2, none)], body := spec_DrawLex_b0 }
def spec_l1Skip_b2 : HCode := (.seq (.reg [⟨some 47, .mov (.t 1), none⟩, ⟨some 4, .mov (.t 47), none⟩]) .ret)
def spec_l1Skip_b6 : HCode := (.reg [⟨some 45, .mov (.t 1), none⟩, ⟨some 46, .bin .add (.t 45) (.c (.int .i64 1)), none⟩, ⟨some 1, .mov (.t 46), none⟩])
def spec_l1Skip_b8 : HCode := (.seq (.reg [⟨some 44, .mov (.t 1), none⟩, ⟨some 4, .mov (.t 44), none⟩]) .ret)
def spec_l1Skip_b7 : HCode := (.cond (.t 43) spec_l1Skip_b8 .skip)
def spec_l1Skip_b5 : HCode := (.seq (.seq (.reg [⟨some 34, .mov (.t 0), none⟩, ⟨some 35, .mov (.t 1), none⟩, ⟨some 36, .idx (.t 34) (.t 35), none⟩, ⟨some 37, .bin .neq (.t 36) (.c (.int .u8 32)), none⟩, ⟨some 38, .mov (.t 37), none⟩, ⟨some 39, .mov (.t 0), some (38, true)⟩, ⟨some 40, .mov (.t 1), some (38, true)⟩, ⟨some 41, .idx (.t 39) (.t 40), some (38, true)⟩, ⟨some 42, .bin .neq (.t 41) (.c (.int .u8 10)), some (38, true)⟩, ⟨some 43, .pick (.t 38) (.t 42) (.c (.bool false)), none⟩]) spec_l1Skip_b7) spec_l1Skip_b6)
def spec_l1Skip_b12 : HCode := (.block 3 (.reg [⟨some 32, .mov (.t 1), none⟩, ⟨some 33, .bin .add (.t 32) (.c (.int .i64 1)), none⟩, ⟨some 1, .mov (.t 33), none⟩]))
def spec_l1Skip_b13 : HCode := (.cond (.t 31) .skip (.exit 2))
def spec_l1Skip_l11 : HCode := (.seq (.seq (.reg [⟨some 22, .mov (.t 1), none⟩, ⟨some 23, .mov (.t 0), none⟩, ⟨some 24, .slen (.t 23), none⟩, ⟨some 25, .bin .lss (.t 22) (.t 24), none⟩, ⟨some 26, .mov (.t 25), none⟩, ⟨some 27, .mov (.t 0), some (26, true)⟩, ⟨some 28, .mov (.t 1), some (26, true)⟩, ⟨some 29, .idx (.t 27) (.t 28), some (26, true)⟩, ⟨some 30, .bin .neq (.t 29) (.c (.int .u8 10)), some (26, true)⟩, ⟨some 31, .pick (.t 26) (.t 30) (.c (.bool false)), none⟩]) spec_l1Skip_b13) spec_l1Skip_b12)
def spec_l1Skip_b10 : HCode := (.seq (.block 2 (.loop spec_l1Skip_l11)) (.exit 1))
def spec_l1Skip_b9 : HCode := (.cond (.t 21) spec_l1Skip_b10 .skip)
def spec_l1Skip_b4 : HCode := (.block 1 (.seq (.seq (.reg [⟨some 9, .mov (.t 1), none⟩, ⟨some 10, .bin .add (.t 9) (.c (.int .i64 2)), none⟩, ⟨some 11, .mov (.t 0), none⟩, ⟨some 12, .slen (.t 11), none⟩, ⟨some 13, .bin .leq (.t 10) (.t 12), none⟩, ⟨some 14, .mov (.t 13), none⟩, ⟨some 15, .mov (.t 0), some (14, true)⟩, ⟨some 16, .mov (.t 1), some (14, true)⟩, ⟨some 17, .mov (.t 1), some (14, true)⟩, ⟨some 18, .bin .add (.t 17) (.c (.int .i64 2)), some (14, true)⟩, ⟨some 19, .substr (.t 15) (some (.t 16)) (some (.t 18)), some (14, true)⟩, ⟨some 20, .bin .eql (.t 19) (.c (.str ⟨⟨[45, 45]⟩⟩)), some (14, true)⟩, ⟨some 21, .pick (.t 14) (.t 20) (.c (.bool false)), none⟩]) spec_l1Skip_b9) spec_l1Skip_b5))
def spec_l1Skip_b14 : HCode := (.cond (.t 8) .skip (.exit 0))
def spec_l1Skip_l3 : HCode := (.seq (.seq (.reg [⟨some 5, .mov (.t 1), none⟩, ⟨some 6, .mov (.t 0), none⟩, ⟨some 7, .slen (.t 6), none⟩, ⟨some 8, .bin .lss (.t 5) (.t 7), none⟩]) spec_l1Skip_b14) spec_l1Skip_b4)
def spec_l1Skip_b1 : HCode := (.seq (.block 0 (.loop spec_l1Skip_l3)) spec_l1Skip_b2)
def spec_l1Skip_b0 : HCode := (.seq (.reg [⟨some 4, .mov (.c (.int .i64 0)), none⟩]) spec_l1Skip_b1)
def spec_l1Skip : HFunc := { np := 2, ntmps := 48, results := [(4, none)], body := spec_l1Skip_b0 }
def spec_l1Has_b2 : HCode := (.seq (.reg [⟨some 4, .mov (.c (.bool false)), none⟩]) .ret)
def spec_l1Has_b6 : HCode := (.reg [⟨some 10, .mov (.t 5), none⟩, ⟨some 11, .bin .add (.t 10) (.c (.int .i64 1)), none⟩, ⟨some 5, .mov (.t 11), none⟩])
def spec_l1Has_b8 : HCode := (.seq (.reg [⟨some 4, .mov (.c (.bool true)), none⟩]) .ret)
def spec_l1Has_b7 : HCode := (.cond (.t 17) spec_l1Has_b8 .skip)
def spec_l1Has_b5 : HCode := (.seq (.block 1 (.seq (.reg [⟨some 12, .mov (.t 0), none⟩, ⟨some 13, .mov (.t 5), none⟩, ⟨some 14, .iaddr 1 (.t 12) (.t 13), none⟩, ⟨some 15, .load false 1 (.t 14), none⟩, ⟨some 16, .mov (.t 1), none⟩, ⟨some 17, .bin .eql (.t 15) (.t 16), none⟩]) spec_l1Has_b7)) spec_l1Has_b6)
def spec_l1Has_b9 : HCode := (.cond (.t 9) .skip (.exit 0))
def spec_l1Has_l4 : HCode := (.seq (.seq (.reg [⟨some 6, .mov (.t 5), none⟩, ⟨some 7, .mov (.t 0), none⟩, ⟨some 8, .len (.t 7), none⟩, ⟨some 9, .bin .lss (.t 6) (.t 8), none⟩]) spec_l1Has_b9) spec_l1Has_b5)
def spec_l1Has_b3 : HCode := (.block 0 (.loop spec_l1Has_l4))
def spec_l1Has_b1 : HCode := (.seq (.seq (.reg [⟨some 5, .mov (.c (.int .i64 0)), none⟩]) spec_l1Has_b3) spec_l1Has_b2)
def spec_l1Has_b0 : HCode := (.seq (.reg [⟨some 4, .mov (.c (.bool false)), none⟩]) spec_l1Has_b1)
def spec_l1Has : HFunc := { np := 2, ntmps := 18, results := [(4, none)], body := spec_l1Has_b0 }
def spec_l1In_b1 : HCode := (.seq (.reg [⟨some 7, .mov (.t 0), none⟩, ⟨some 8, .mov (.t 1), none⟩, ⟨some 9, .bin .geq (.t 7) (.t 8), none⟩, ⟨some 10, .mov (.t 9), none⟩, ⟨some 11, .mov (.t 0), some (10, true)⟩, ⟨some 12, .mov (.t 2), some (10, true)⟩, ⟨some 13, .bin .leq (.t 11) (.t 12), some (10, true)⟩, ⟨some 14, .pick (.t 10) (.t 13) (.c (.bool false)), none⟩, ⟨some 6, .mov (.t 14), none⟩]) .ret)
def spec_l1In_b0 : HCode := (.seq (.reg [⟨some 6, .mov (.c (.bool false)), none⟩]) spec_l1In_b1)
def spec_l1In : HFunc := { np := 3, ntmps := 15, results := [(6, none)], body := spec_l1In_b0 }
def spec_l1Digit_b1 : HCode := (.seq (.reg [⟨some 3, .mov (.t 0), none⟩, ⟨some 4, .conv .i64 (.t 3), none⟩, ⟨some 5, .call (.c (.fn F.spec_l1In [] [])) [(.t 4), (.c (.int .i64 48)), (.c (.int .i64 57))], none⟩, ⟨some 2, .mov (.t 5), none⟩]) .ret)
def spec_l1Digit_b0 : HCode := (.seq (.reg [⟨some 2, .mov (.c (.bool false)), none⟩]) spec_l1Digit_b1)
def spec_l1Digit : HFunc := { np := 1, ntmps := 6, results := [(2, none)], body := spec_l1Digit_b0 }
def spec_l1Large_b1 : HCode := (.seq (.reg [⟨some 3, .mov (.t 0), none⟩, ⟨some 4, .conv .i64 (.t 3), none⟩, ⟨some 5, .call (.c (.fn F.spec_l1In [] [])) [(.t 4), (.c (.int .i64 65)), (.c (.int .i64 90))], none⟩, ⟨some 2, .mov (.t 5), none⟩]) .ret)
def spec_l1Large_b0 : HCode := (.seq (.reg [⟨some 2, .mov (.c (.bool false)), none⟩]) spec_l1Large_b1)
def spec_l1Large : HFunc := { np := 1, ntmps := 6, results := [(2, none)], body := spec_l1Large_b0 }
def spec_l1NumOk_b2 : HCode := (.seq (.reg [⟨some 15, .mov (.t 0), none⟩, ⟨some 16, .slen (.t 15), none⟩, ⟨some 17, .call (.c (.fn F.spec_l1In [] [])) [(.t 16), (.c (.int .i64 1)), (.c (.int .i64 6))], none⟩, ⟨some 18, .mov (.t 17), none⟩, ⟨some 19, .mov (.t 0), some (18, true)⟩, ⟨some 20, .slen (.t 19), some (18, true)⟩, ⟨some 21, .bin .eql (.t 20) (.c (.int .i64 1)), some (18, true)⟩, ⟨some 22, .mov (.t 21), some (18, true)⟩, ⟨some 23, .mov (.t 0), some (22, false)⟩, ⟨some 24, .idx (.t 23) (.c (.int .i64 0)), some (22, false)⟩, ⟨some 25, .bin .neq (.t 24) (.c (.int .u8 48)), some (22, false)⟩, ⟨some 26, .pick (.t 22) (.c (.bool true)) (.t 25), some (18, true)⟩, ⟨some 27, .pick (.t 18) (.t 26) (.c (.bool false)), none⟩, ⟨some 2, .mov (.t 27), none⟩]) .ret)
def spec_l1NumOk_b6 : HCode := (.reg [⟨some 8, .mov (.t 3), none⟩, ⟨some 9, .bin .add (.t 8) (.c (.int .i64 1)), none⟩, ⟨some 3, .mov (.t 9), none⟩])
def spec_l1NumOk_b8 : HCode := (.seq (.reg [⟨some 2, .mov (.c (.bool false)), none⟩]) .ret)
def spec_l1NumOk_b7 : HCode := (.cond (.t 14) spec_l1NumOk_b8 .skip)
def spec_l1NumOk_b5 : HCode := (.seq (.block 1 (.seq (.reg [⟨some 10, .mov (.t 0), none⟩, ⟨some 11, .mov (.t 3), none⟩, ⟨some 12, .idx (.t 10) (.t 11), none⟩, ⟨some 13, .call (.c (.fn F.spec_l1Digit [] [])) [(.t 12)], none⟩, ⟨some 14, .not (.t 13), none⟩]) spec_l1NumOk_b7)) spec_l1NumOk_b6)
def spec_l1NumOk_b9 : HCode := (.cond (.t 7) .skip (.exit 0))
def spec_l1NumOk_l4 : HCode := (.seq (.seq (.reg [⟨some 4, .mov (.t 3), none⟩, ⟨some 5, .mov (.t 0), none⟩, ⟨some 6, .slen (.t 5), none⟩, ⟨some 7, .bin .lss (.t 4) (.t 6), none⟩]) spec_l1NumOk_b9) spec_l1NumOk_b5)
def spec_l1NumOk_b3 : HCode := (.block 0 (.loop spec_l1NumOk_l4))
def spec_l1NumOk_b1 : HCode := (.seq (.seq (.reg [⟨some 3, .mov (.c (.int .i64 0)), none⟩]) spec_l1NumOk_b3) spec_l1NumOk_b2)
def spec_l1NumOk_b0 : HCode := (.seq (.reg [⟨some 2, .mov (.c (.bool false)), none⟩]) spec_l1NumOk_b1)
def spec_l1NumOk : HFunc := { np := 1, ntmps := 28, results := [(2, none)], body := spec_l1NumOk_b0 }
def spec_l1IsWord_b1 : HCode := (.seq (.reg [⟨some 3, .bslice 1 9 [(.str ⟨⟨[]⟩⟩)] [(0, (.c (.str ⟨⟨[108, 101, 116]⟩⟩))), (1, (.c (.str ⟨⟨[105, 110]⟩⟩))), (2, (.c (.str ⟨⟨[119, 104, 101, 114, 101]⟩⟩))), (3, (.c (.str ⟨⟨[99, 97, 115, 101]⟩⟩))), (4, (.c (.str ⟨⟨[111, 102]⟩⟩))), (5, (.c (.str ⟨⟨[105, 102]⟩⟩))), (6, (.c (.str ⟨⟨[116, 104, 101, 110]⟩⟩))), (7, (.c (.str ⟨⟨[101, 108, 115, 101]⟩⟩))), (8, (.c (.str ⟨⟨[100, 97, 116, 97]⟩⟩)))], none⟩, ⟨some 4, .mov (.t 0), none⟩, ⟨some 5, .call (.c (.fn F.spec_l1Has [] [])) [(.t 3), (.t 4)], none⟩, ⟨some 2, .mov (.t 5), none⟩]) .ret)
def spec_l1IsWord_b0 : HCode := (.seq (.reg [⟨some 2, .mov (.c (.bool false)), none⟩]) spec_l1IsWord_b1)
def spec_l1IsWord : HFunc := { np := 1, ntmps := 6, results := [(2, none)], body := spec_l1IsWord_b0 }
def spec_l1Small_b1 : HCode := (.seq (.reg [⟨some 3, .mov (.t 0), none⟩, ⟨some 4, .conv .i64 (.t 3), none⟩, ⟨some 5, .call (.c (.fn F.spec_l1In [] [])) [(.t 4), (.c (.int .i64 97)), (.c (.int .i64 122))], none⟩, ⟨some 2, .mov (.t 5), none⟩]) .ret)
def spec_l1Small_b0 : HCode := (.seq (.reg [⟨some 2, .mov (.c (.bool false)), none⟩]) spec_l1Small_b1)
def spec_l1Small : HFunc := { np := 1, ntmps := 6, results := [(2, none)], body := spec_l1Small_b0 }
def spec_l1Letter_b1 : HCode := (.seq (.reg [⟨some 3, .mov (.t 0), none⟩, ⟨some 4, .call (.c (.fn F.spec_l1Small [] [])) [(.t 3)], none⟩, ⟨some 5, .mov (.t 4), none⟩, ⟨some 6, .mov (.t 0), some (5, false)⟩, ⟨some 7, .call (.c (.fn F.spec_l1Large [] [])) [(.t 6)], some (5, false)⟩, ⟨some 8, .pick (.t 5) (.c (.bool true)) (.t 7), none⟩, ⟨some 9, .mov (.t 8), none⟩, ⟨some 10, .mov (.t 0), some (9, false)⟩, ⟨some 11, .call (.c (.fn F.spec_l1Digit [] [])) [(.t 10)], some (9, false)⟩, ⟨some 12, .pick (.t 9) (.c (.bool true)) (.t 11), none⟩, ⟨some 2, .mov (.t 12), none⟩]) .ret)
def spec_l1Letter_b0 : HCode := (.seq (.reg [⟨some 2, .mov (.c (.bool false)), none⟩]) spec_l1Letter_b1)
def spec_l1Letter : HFunc := { np := 1, ntmps := 13, results := [(2, none)], body := spec_l1Letter_b0 }
def spec_l1Letters_b2 : HCode := (.seq (.reg [⟨some 15, .mov (.t 0), none⟩, ⟨some 16, .slen (.t 15), none⟩, ⟨some 17, .call (.c (.fn F.spec_l1In [] [])) [(.t 16), (.c (.int .i64 1)), (.c (.int .i64 8))], none⟩, ⟨some 2, .mov (.t 17), none⟩]) .ret)
def spec_l1Letters_b6 : HCode := (.reg [⟨some 8, .mov (.t 3), none⟩, ⟨some 9, .bin .add (.t 8) (.c (.int .i64 1)), none⟩, ⟨some 3, .mov (.t 9), none⟩])
def spec_l1Letters_b8 : HCode := (.seq (.reg [⟨some 2, .mov (.c (.bool false)), none⟩]) .ret)
def spec_l1Letters_b7 : HCode := (.cond (.t 14) spec_l1Letters_b8 .skip)
def spec_l1Letters_b5 : HCode := (.seq (.block 1 (.seq (.reg [⟨some 10, .mov (.t 0), none⟩, ⟨some 11, .mov (.t 3), none⟩, ⟨some 12, .idx (.t 10) (.t 11), none⟩, ⟨some 13, .call (.c (.fn F.spec_l1Letter [] [])) [(.t 12)], none⟩, ⟨some 14, .not (.t 13), none⟩]) spec_l1Letters_b7)) spec_l1Letters_b6)
def spec_l1Letters_b9 : HCode := (.cond (.t 7) .skip (.exit 0))
def spec_l1Letters_l4 : HCode := (.seq (.seq (.reg [⟨some 4, .mov (.t 3), none⟩, ⟨some 5, .mov (.t 0), none⟩, ⟨some 6, .slen (.t 5), none⟩, ⟨some 7, .bin .lss (.t 4) (.t 6), none⟩]) spec_l1Letters_b9) spec_l1Letters_b5)
def spec_l1Letters_b3 : HCode := (.block 0 (.loop spec_l1Letters_l4))
def spec_l1Letters_b1 : HCode := (.seq (.seq (.reg [⟨some 3, .mov (.c (.int .i64 0)), none⟩]) spec_l1Letters_b3) spec_l1Letters_b2)
def spec_l1Letters_b0 : HCode := (.seq (.reg [⟨some 2, .mov (.c (.bool false)), none⟩]) spec_l1Letters_b1)
def spec_l1Letters : HFunc := { np := 1, ntmps := 18, results := [(2, none)], body := spec_l1Letters_b0 }
def spec_GreatOk_b1 : HCode := (.seq (.reg [⟨some 3, .mov (.t 0), none⟩, ⟨some 4, .call (.c (.fn F.spec_l1Letters [] [])) [(.t 3)], none⟩, ⟨some 5, .mov (.t 4), none⟩, ⟨some 6, .mov (.t 0), some (5, true)⟩, ⟨some 7, .idx (.t 6) (.c (.int .i64 0)), some (5, true)⟩, ⟨some 8, .call (.c (.fn F.spec_l1Large [] [])) [(.t 7)], some (5, true)⟩, ⟨some 9, .pick (.t 5) (.t 8) (.c (.bool false)), none⟩, ⟨some 2, .mov (.t 9), none⟩]) .ret)
def spec_GreatOk_b0 : HCode := (.seq (.reg [⟨some 2, .mov (.c (.bool false)), none⟩]) spec_GreatOk_b1)
def spec_GreatOk : HFunc := { np := 1, ntmps := 10, results := [(2, none)], body := spec_GreatOk_b0 }
def spec_NameOk_b1 : HCode := (.seq (.reg [⟨some 3, .mov (.t 0), none⟩, ⟨some 4, .call (.c (.fn F.spec_l1Letters [] [])) [(.t 3)], none⟩, ⟨some 5, .mov (.t 4), none⟩, ⟨some 6, .mov (.t 0), some (5, true)⟩, ⟨some 7, .idx (.t 6) (.c (.int .i64 0)), some (5, true)⟩, ⟨some 8, .call (.c (.fn F.spec_l1Small [] [])) [(.t 7)], some (5, true)⟩, ⟨some 9, .pick (.t 5) (.t 8) (.c (.bool false)), none⟩, ⟨some 10, .mov (.t 9), none⟩, ⟨some 11, .mov (.t 0), some (10, true)⟩, ⟨some 12, .call (.c (.fn F.spec_l1IsWord [] [])) [(.t 11)], some (10, true)⟩, ⟨some 13, .not (.t 12), some (10, true)⟩, ⟨some 14, .pick (.t 10) (.t 13) (.c (.bool false)), none⟩, ⟨some 2, .mov (.t 14), none⟩]) .ret)
def spec_NameOk_b0 : HCode := (.seq (.reg [⟨some 2, .mov (.c (.bool false)), none⟩]) spec_NameOk_b1)
def spec_NameOk : HFunc := { np := 1, ntmps := 15, results := [(2, none)], body := spec_NameOk_b0 }
def spec_l1Kind_b2 : HCode := (.seq (.reg [⟨some 2, .mov (.c (.int .i64 0)), none⟩]) .ret)
def spec_l1Kind_b4 : HCode := (.seq (.reg [⟨some 2, .mov (.c (.int .i64 4)), none⟩]) .ret)
def spec_l1Kind_b7 : HCode := (.seq (.reg [⟨some 2, .mov (.c (.int .i64 1)), none⟩]) .ret)
def spec_l1Kind_b10 : HCode := (.seq (.reg [⟨some 2, .mov (.c (.int .i64 2)), none⟩]) .ret)
def spec_l1Kind_b9 : HCode := (.cond (.t 9) spec_l1Kind_b10 .skip)
def spec_l1Kind_b8 : HCode := (.seq (.reg [⟨some 10, .mov (.t 0), none⟩, ⟨some 11, .call (.c (.fn F.spec_GreatOk [] [])) [(.t 10)], none⟩, ⟨some 9, .mov (.t 11), none⟩]) spec_l1Kind_b9)
def spec_l1Kind_b6 : HCode := (.cond (.t 6) spec_l1Kind_b7 spec_l1Kind_b8)
def spec_l1Kind_b5 : HCode := (.seq (.reg [⟨some 7, .mov (.t 0), none⟩, ⟨some 8, .call (.c (.fn F.spec_NameOk [] [])) [(.t 7)], none⟩, ⟨some 6, .mov (.t 8), none⟩]) spec_l1Kind_b6)
def spec_l1Kind_b3 : HCode := (.cond (.t 3) spec_l1Kind_b4 spec_l1Kind_b5)
def spec_l1Kind_b1 : HCode := (.seq (.block 0 (.seq (.reg [⟨some 4, .mov (.t 0), none⟩, ⟨some 5, .call (.c (.fn F.spec_l1IsWord [] [])) [(.t 4)], none⟩, ⟨some 3, .mov (.t 5), none⟩]) spec_l1Kind_b3)) spec_l1Kind_b2)
def spec_l1Kind_b0 : HCode := (.seq (.reg [⟨some 2, .mov (.c (.int .i64 0)), none⟩]) spec_l1Kind_b1)
def spec_l1Kind : HFunc := { np := 1, ntmps := 12, results := [(2, none)], body := spec_l1Kind_b0 }
def spec_l1Next_b6 : HCode := (.seq (.reg [⟨some 4, .mov (.c (.int .i64 0)), none⟩, ⟨some 5, .mov (.c (.int .i64 0)), none⟩]) .ret)
def spec_l1Next_b8 : HCode := (.seq (.reg [⟨some 4, .mov (.c (.int .i64 1)), none⟩, ⟨some 5, .mov (.c (.int .i64 5)), none⟩]) .ret)
def spec_l1Next_b7 : HCode := (.cond (.t 90) spec_l1Next_b8 .skip)
def spec_l1Next_b5 : HCode := (.seq (.seq (.reg [⟨some 84, .bslice 1 13 [(.str ⟨⟨[]⟩⟩)] [(0, (.c (.str ⟨⟨[40]⟩⟩))), (1, (.c (.str ⟨⟨[41]⟩⟩))), (2, (.c (.str ⟨⟨[123]⟩⟩))), (3, (.c (.str ⟨⟨[125]⟩⟩))), (4, (.c (.str ⟨⟨[59]⟩⟩))), (5, (.c (.str ⟨⟨[61]⟩⟩))), (6, (.c (.str ⟨⟨[92]⟩⟩))), (7, (.c (.str ⟨⟨[124]⟩⟩))), (8, (.c (.str ⟨⟨[43]⟩⟩))), (9, (.c (.str ⟨⟨[45]⟩⟩))), (10, (.c (.str ⟨⟨[42]⟩⟩))), (11, (.c (.str ⟨⟨[60]⟩⟩))), (12, (.c (.str ⟨⟨[95]⟩⟩)))], none⟩, ⟨some 85, .mov (.t 0), none⟩, ⟨some 86, .mov (.t 1), none⟩, ⟨some 87, .mov (.t 1), none⟩, ⟨some 88, .bin .add (.t 87) (.c (.int .i64 1)), none⟩, ⟨some 89, .substr (.t 85) (some (.t 86)) (some (.t 88)), none⟩, ⟨some 90, .call (.c (.fn F.spec_l1Has [] [])) [(.t 84), (.t 89)], none⟩]) spec_l1Next_b7) spec_l1Next_b6)
def spec_l1Next_b10 : HCode := (.seq (.reg [⟨some 4, .mov (.c (.int .i64 2)), none⟩, ⟨some 5, .mov (.c (.int .i64 5)), none⟩]) .ret)
def spec_l1Next_b9 : HCode := (.cond (.t 83) spec_l1Next_b10 .skip)
def spec_l1Next_b4 : HCode := (.seq (.seq (.reg [⟨some 63, .mov (.t 1), none⟩, ⟨some 64, .bin .add (.t 63) (.c (.int .i64 2)), none⟩, ⟨some 65, .mov (.t 0), none⟩, ⟨some 66, .slen (.t 65), none⟩, ⟨some 67, .bin .leq (.t 64) (.t 66), none⟩, ⟨some 68, .mov (.t 67), none⟩, ⟨some 69, .mov (.t 0), some (68, true)⟩, ⟨some 70, .mov (.t 1), some (68, true)⟩, ⟨some 71, .mov (.t 1), some (68, true)⟩, ⟨some 72, .bin .add (.t 71) (.c (.int .i64 2)), some (68, true)⟩, ⟨some 73, .substr (.t 69) (some (.t 70)) (some (.t 72)), some (68, true)⟩, ⟨some 74, .bin .eql (.t 73) (.c (.str ⟨⟨[45, 62]⟩⟩)), some (68, true)⟩, ⟨some 75, .mov (.t 74), some (68, true)⟩, ⟨some 76, .mov (.t 0), some (75, false)⟩, ⟨some 77, .mov (.t 1), some (75, false)⟩, ⟨some 78, .mov (.t 1), some (75, false)⟩, ⟨some 79, .bin .add (.t 78) (.c (.int .i64 2)), some (75, false)⟩, ⟨some 80, .substr (.t 76) (some (.t 77)) (some (.t 79)), some (75, false)⟩, ⟨some 81, .bin .eql (.t 80) (.c (.str ⟨⟨[61, 61]⟩⟩)), some (75, false)⟩, ⟨some 82, .pick (.t 75) (.c (.bool true)) (.t 81), some (68, true)⟩, ⟨some 83, .pick (.t 68) (.t 82) (.c (.bool false)), none⟩]) spec_l1Next_b9) spec_l1Next_b5)
def spec_l1Next_b14 : HCode := (.seq (.reg [⟨some 33, .mov (.t 7), none⟩, ⟨some 34, .mov (.t 1), none⟩, ⟨some 35, .bin .sub (.t 33) (.t 34), none⟩, ⟨some 4, .mov (.t 35), none⟩, ⟨some 5, .mov (.c (.int .i64 3)), none⟩]) .ret)
def spec_l1Next_b16 : HCode := (.seq (.reg [⟨some 4, .mov (.c (.int .i64 0)), none⟩, ⟨some 5, .mov (.c (.int .i64 0)), none⟩]) .ret)
def spec_l1Next_b15 : HCode := (.cond (.t 32) spec_l1Next_b16 .skip)
def spec_l1Next_b13 : HCode := (.seq (.seq (.reg [⟨some 27, .mov (.t 0), none⟩, ⟨some 28, .mov (.t 1), none⟩, ⟨some 29, .mov (.t 7), none⟩, ⟨some 30, .substr (.t 27) (some (.t 28)) (some (.t 29)), none⟩, ⟨some 31, .call (.c (.fn F.spec_l1NumOk [] [])) [(.t 30)], none⟩, ⟨some 32, .not (.t 31), none⟩]) spec_l1Next_b15) spec_l1Next_b14)
def spec_l1Next_b18 : HCode := (.block 2 (.reg [⟨some 25, .mov (.t 7), none⟩, ⟨some 26, .bin .add (.t 25) (.c (.int .i64 1)), none⟩, ⟨some 7, .mov (.t 26), none⟩]))
def spec_l1Next_b19 : HCode := (.cond (.t 24) .skip (.exit 1))
def spec_l1Next_l17 : HCode := (.seq (.seq (.reg [⟨some 15, .mov (.t 7), none⟩, ⟨some 16, .mov (.t 0), none⟩, ⟨some 17, .slen (.t 16), none⟩, ⟨some 18, .bin .lss (.t 15) (.t 17), none⟩, ⟨some 19, .mov (.t 18), none⟩, ⟨some 20, .mov (.t 0), some (19, true)⟩, ⟨some 21, .mov (.t 7), some (19, true)⟩, ⟨some 22, .idx (.t 20) (.t 21), some (19, true)⟩, ⟨some 23, .call (.c (.fn F.spec_l1Digit [] [])) [(.t 22)], some (19, true)⟩, ⟨some 24, .pick (.t 19) (.t 23) (.c (.bool false)), none⟩]) spec_l1Next_b19) spec_l1Next_b18)
def spec_l1Next_b12 : HCode := (.seq (.block 1 (.loop spec_l1Next_l17)) spec_l1Next_b13)
def spec_l1Next_b23 : HCode := (.seq (.reg [⟨some 55, .mov (.t 7), none⟩, ⟨some 56, .mov (.t 1), none⟩, ⟨some 57, .bin .sub (.t 55) (.t 56), none⟩, ⟨some 58, .mov (.t 0), none⟩, ⟨some 59, .mov (.t 1), none⟩, ⟨some 60, .mov (.t 7), none⟩, ⟨some 61, .substr (.t 58) (some (.t 59)) (some (.t 60)), none⟩, ⟨some 62, .call (.c (.fn F.spec_l1Kind [] [])) [(.t 61)], none⟩, ⟨some 4, .mov (.t 57), none⟩, ⟨some 5, .mov (.t 62), none⟩]) .ret)
def spec_l1Next_b25 : HCode := (.block 4 (.reg [⟨some 53, .mov (.t 7), none⟩, ⟨some 54, .bin .add (.t 53) (.c (.int .i64 1)), none⟩, ⟨some 7, .mov (.t 54), none⟩]))
def spec_l1Next_b26 : HCode := (.cond (.t 52) .skip (.exit 3))
def spec_l1Next_l24 : HCode := (.seq (.seq (.reg [⟨some 43, .mov (.t 7), none⟩, ⟨some 44, .mov (.t 0), none⟩, ⟨some 45, .slen (.t 44), none⟩, ⟨some 46, .bin .lss (.t 43) (.t 45), none⟩, ⟨some 47, .mov (.t 46), none⟩, ⟨some 48, .mov (.t 0), some (47, true)⟩, ⟨some 49, .mov (.t 7), some (47, true)⟩, ⟨some 50, .idx (.t 48) (.t 49), some (47, true)⟩, ⟨some 51, .call (.c (.fn F.spec_l1Letter [] [])) [(.t 50)], some (47, true)⟩, ⟨some 52, .pick (.t 47) (.t 51) (.c (.bool false)), none⟩]) spec_l1Next_b26) spec_l1Next_b25)
def spec_l1Next_b22 : HCode := (.seq (.block 3 (.loop spec_l1Next_l24)) spec_l1Next_b23)
def spec_l1Next_b21 : HCode := (.cond (.t 36) spec_l1Next_b22 .skip)
def spec_l1Next_b20 : HCode := (.seq (.reg [⟨some 37, .mov (.t 6), none⟩, ⟨some 38, .call (.c (.fn F.spec_l1Small [] [])) [(.t 37)], none⟩, ⟨some 39, .mov (.t 38), none⟩, ⟨some 40, .mov (.t 6), some (39, false)⟩, ⟨some 41, .call (.c (.fn F.spec_l1Large [] [])) [(.t 40)], some (39, false)⟩, ⟨some 42, .pick (.t 39) (.c (.bool true)) (.t 41), none⟩, ⟨some 36, .mov (.t 42), none⟩]) spec_l1Next_b21)
def spec_l1Next_b11 : HCode := (.cond (.t 12) spec_l1Next_b12 spec_l1Next_b20)
def spec_l1Next_b3 : HCode := (.seq (.block 0 (.seq (.reg [⟨some 13, .mov (.t 6), none⟩, ⟨some 14, .call (.c (.fn F.spec_l1Digit [] [])) [(.t 13)], none⟩, ⟨some 12, .mov (.t 14), none⟩]) spec_l1Next_b11)) spec_l1Next_b4)
def spec_l1Next_b2 : HCode := (.seq (.reg [⟨some 11, .mov (.t 1), none⟩, ⟨some 7, .mov (.t 11), none⟩]) spec_l1Next_b3)
def spec_l1Next_b1 : HCode := (.seq (.reg [⟨some 8, .mov (.t 0), none⟩, ⟨some 9, .mov (.t 1), none⟩, ⟨some 10, .idx (.t 8) (.t 9), none⟩, ⟨some 6, .mov (.t 10), none⟩]) spec_l1Next_b2)
def spec_l1Next_b0 : HCode := (.seq (.reg [⟨some 4, .mov (.c (.int .i64 0)), none⟩, ⟨some 5, .mov (.c (.int .i64 0)), none⟩]) spec_l1Next_b1)
def spec_l1Next : HFunc := { np := 2, ntmps := 91, results := [(4, none), (5, none)], body := spec_l1Next_b0 }
def spec_l1Place_b4 : HCode := (.seq (.reg [⟨some 22, .mov (.t 6), none⟩, ⟨some 23, .mov (.t 7), none⟩, ⟨some 4, .mov (.t 22), none⟩, ⟨some 5, .mov (.t 23), none⟩]) .ret)
def spec_l1Place_b8 : HCode := (.reg [⟨some 12, .mov (.t 8), none⟩, ⟨some 13, .bin .add (.t 12) (.c (.int .i64 1)), none⟩, ⟨some 8, .mov (.t 13), none⟩])
def spec_l1Place_b12 : HCode := (.reg [⟨some 7, .mov (.c (.int .i64 1)), none⟩])
def spec_l1Place_b11 : HCode := (.seq (.reg [⟨some 20, .mov (.t 6), none⟩, ⟨some 21, .bin .add (.t 20) (.c (.int .i64 1)), none⟩, ⟨some 6, .mov (.t 21), none⟩]) spec_l1Place_b12)
def spec_l1Place_b10 : HCode := (.cond (.t 19) spec_l1Place_b11 .skip)
def spec_l1Place_b9 : HCode := (.seq (.reg [⟨some 16, .mov (.t 0), none⟩, ⟨some 17, .mov (.t 8), none⟩, ⟨some 18, .idx (.t 16) (.t 17), none⟩, ⟨some 19, .bin .eql (.t 18) (.c (.int .u8 10)), none⟩]) spec_l1Place_b10)
def spec_l1Place_b7 : HCode := (.seq (.block 1 (.seq (.reg [⟨some 14, .mov (.t 7), none⟩, ⟨some 15, .bin .add (.t 14) (.c (.int .i64 1)), none⟩, ⟨some 7, .mov (.t 15), none⟩]) spec_l1Place_b9)) spec_l1Place_b8)
def spec_l1Place_b13 : HCode := (.cond (.t 11) .skip (.exit 0))
def spec_l1Place_l6 : HCode := (.seq (.seq (.reg [⟨some 9, .mov (.t 8), none⟩, ⟨some 10, .mov (.t 1), none⟩, ⟨some 11, .bin .lss (.t 9) (.t 10), none⟩]) spec_l1Place_b13) spec_l1Place_b7)
def spec_l1Place_b5 : HCode := (.block 0 (.loop spec_l1Place_l6))
def spec_l1Place_b3 : HCode := (.seq (.seq (.reg [⟨some 8, .mov (.c (.int .i64 0)), none⟩]) spec_l1Place_b5) spec_l1Place_b4)
def spec_l1Place_b2 : HCode := (.seq (.reg [⟨some 7, .mov (.c (.int .i64 1)), none⟩]) spec_l1Place_b3)
def spec_l1Place_b1 : HCode := (.seq (.reg [⟨some 6, .mov (.c (.int .i64 1)), none⟩]) spec_l1Place_b2)
def spec_l1Place_b0 : HCode := (.seq (.reg [⟨some 4, .mov (.c (.int .i64 0)), none⟩, ⟨some 5, .mov (.c (.int .i64 0)), none⟩]) spec_l1Place_b1)
def spec_l1Place : HFunc := { np := 2, ntmps := 24, results := [(4, none), (5, none)], body := spec_l1Place_b0 }
def spec_Lex_b8 : HCode := (.seq (.reg [⟨some 93, .mov (.t 4), none⟩, ⟨some 94, .mov (.t 12), none⟩, ⟨some 95, .mov (.t 13), none⟩, ⟨some 96, .build [(.int .i64 0), (.str ⟨⟨[]⟩⟩), (.int .i64 0), (.int .i64 0)] [(0, 1, (.c (.int .i64 6))), (2, 1, (.t 94)), (3, 1, (.t 95))], none⟩, ⟨some 97, .bslice 4 1 [(.int .i64 0), (.str ⟨⟨[]⟩⟩), (.int .i64 0), (.int .i64 0)] [(0, (.t 96))], none⟩, ⟨some 98, .append 4 40 (.t 93) (.t 97), none⟩, ⟨some 2, .mov (.t 98), none⟩, ⟨some 3, .mov (.c (.bool true)), none⟩]) .ret)
def spec_Lex_b7 : HCode := (.seq (.reg [⟨some 87, .mov (.t 0), none⟩, ⟨some 88, .mov (.t 0), none⟩, ⟨some 89, .slen (.t 88), none⟩, ⟨some 90, .call (.c (.fn F.spec_l1Place [] [])) [(.t 87), (.t 89)], none⟩, ⟨some 86, .mov (.t 90), none⟩, ⟨some 91, .ext (.t 86) 0, none⟩, ⟨some 92, .ext (.t 86) 1, none⟩, ⟨some 12, .mov (.t 91), none⟩, ⟨some 13, .mov (.t 92), none⟩]) spec_Lex_b8)
def spec_Lex_b10 : HCode := (.seq (.reg [⟨some 85, .bslice 4 0 [(.int .i64 0), (.str ⟨⟨[]⟩⟩), (.int .i64 0), (.int .i64 0)] [], none⟩, ⟨some 2, .mov (.t 85), none⟩, ⟨some 3, .mov (.c (.bool false)), none⟩]) .ret)
def spec_Lex_b9 : HCode := (.cond (.t 84) spec_Lex_b10 .skip)
def spec_Lex_b6 : HCode := (.seq (.seq (.reg [⟨some 77, .mov (.t 0), none⟩, ⟨some 78, .slen (.t 77), none⟩, ⟨some 79, .bin .gtr (.t 78) (.c (.int .i64 1500)), none⟩, ⟨some 80, .mov (.t 79), none⟩, ⟨some 81, .mov (.t 4), some (80, false)⟩, ⟨some 82, .len (.t 81), some (80, false)⟩, ⟨some 83, .bin .geq (.t 82) (.c (.int .i64 400)), some (80, false)⟩, ⟨some 84, .pick (.t 80) (.c (.bool true)) (.t 83), none⟩]) spec_Lex_b9) spec_Lex_b7)
def spec_Lex_b14 : HCode := (.reg [⟨some 26, .mov (.t 0), none⟩, ⟨some 27, .mov (.t 8), none⟩, ⟨some 28, .call (.c (.fn F.spec_l1Skip [] [])) [(.t 26), (.t 27)], none⟩, ⟨some 8, .mov (.t 28), none⟩])
def spec_Lex_b19 : HCode := (.reg [⟨some 74, .mov (.t 8), none⟩, ⟨some 75, .mov (.t 9), none⟩, ⟨some 76, .bin .add (.t 74) (.t 75), none⟩, ⟨some 8, .mov (.t 76), none⟩])
def spec_Lex_b18 : HCode := (.seq (.reg [⟨some 58, .mov (.t 4), none⟩, ⟨some 59, .mov (.t 10), none⟩, ⟨some 60, .mov (.t 0), none⟩, ⟨some 61, .mov (.t 8), none⟩, ⟨some 62, .mov (.t 8), none⟩, ⟨some 63, .mov (.t 9), none⟩, ⟨some 64, .bin .add (.t 62) (.t 63), none⟩, ⟨some 65, .substr (.t 60) (some (.t 61)) (some (.t 64)), none⟩, ⟨some 66, .mov (.t 5), none⟩, ⟨some 67, .mov (.t 8), none⟩, ⟨some 68, .mov (.t 6), none⟩, ⟨some 69, .bin .sub (.t 67) (.t 68), none⟩, ⟨some 70, .bin .add (.t 69) (.c (.int .i64 1)), none⟩, ⟨some 71, .build [(.int .i64 0), (.str ⟨⟨[]⟩⟩), (.int .i64 0), (.int .i64 0)] [(0, 1, (.t 59)), (1, 1, (.t 65)), (2, 1, (.t 66)), (3, 1, (.t 70))], none⟩, ⟨some 72, .bslice 4 1 [(.int .i64 0), (.str ⟨⟨[]⟩⟩), (.int .i64 0), (.int .i64 0)] [(0, (.t 71))], none⟩, ⟨some 73, .append 4 40 (.t 58) (.t 72), none⟩, ⟨some 4, .mov (.t 73), none⟩]) spec_Lex_b19)
def spec_Lex_b17 : HCode := (.seq (.reg [⟨some 57, .mov (.t 8), none⟩, ⟨some 7, .mov (.t 57), none⟩]) spec_Lex_b18)
def spec_Lex_b23 : HCode := (.reg [⟨some 47, .mov (.t 11), none⟩, ⟨some 48, .bin .add (.t 47) (.c (.int .i64 1)), none⟩, ⟨some 11, .mov (.t 48), none⟩])
def spec_Lex_b26 : HCode := (.reg [⟨some 55, .mov (.t 11), none⟩, ⟨some 56, .bin .add (.t 55) (.c (.int .i64 1)), none⟩, ⟨some 6, .mov (.t 56), none⟩])
def spec_Lex_b25 : HCode := (.seq (.reg [⟨some 53, .mov (.t 5), none⟩, ⟨some 54, .bin .add (.t 53) (.c (.int .i64 1)), none⟩, ⟨some 5, .mov (.t 54), none⟩]) spec_Lex_b26)
def spec_Lex_b24 : HCode := (.cond (.t 52) spec_Lex_b25 .skip)
def spec_Lex_b22 : HCode := (.seq (.block 3 (.seq (.reg [⟨some 49, .mov (.t 0), none⟩, ⟨some 50, .mov (.t 11), none⟩, ⟨some 51, .idx (.t 49) (.t 50), none⟩, ⟨some 52, .bin .eql (.t 51) (.c (.int .u8 10)), none⟩]) spec_Lex_b24)) spec_Lex_b23)
def spec_Lex_b27 : HCode := (.cond (.t 46) .skip (.exit 2))
def spec_Lex_l21 : HCode := (.seq (.seq (.reg [⟨some 44, .mov (.t 11), none⟩, ⟨some 45, .mov (.t 8), none⟩, ⟨some 46, .bin .lss (.t 44) (.t 45), none⟩]) spec_Lex_b27) spec_Lex_b22)
def spec_Lex_b20 : HCode := (.block 2 (.loop spec_Lex_l21))
def spec_Lex_b16 : HCode := (.seq (.seq (.reg [⟨some 43, .mov (.t 7), none⟩, ⟨some 11, .mov (.t 43), none⟩]) spec_Lex_b20) spec_Lex_b17)
def spec_Lex_b29 : HCode := (.seq (.reg [⟨some 42, .bslice 4 0 [(.int .i64 0), (.str ⟨⟨[]⟩⟩), (.int .i64 0), (.int .i64 0)] [], none⟩, ⟨some 2, .mov (.t 42), none⟩, ⟨some 3, .mov (.c (.bool false)), none⟩]) .ret)
def spec_Lex_b28 : HCode := (.cond (.t 41) spec_Lex_b29 .skip)
def spec_Lex_b15 : HCode := (.seq (.seq (.reg [⟨some 35, .mov (.t 10), none⟩, ⟨some 36, .bin .eql (.t 35) (.c (.int .i64 0)), none⟩, ⟨some 37, .mov (.t 36), none⟩, ⟨some 38, .mov (.t 4), some (37, false)⟩, ⟨some 39, .len (.t 38), some (37, false)⟩, ⟨some 40, .bin .geq (.t 39) (.c (.int .i64 400)), some (37, false)⟩, ⟨some 41, .pick (.t 37) (.c (.bool true)) (.t 40), none⟩]) spec_Lex_b28) spec_Lex_b16)
def spec_Lex_b13 : HCode := (.seq (.block 1 (.seq (.reg [⟨some 30, .mov (.t 0), none⟩, ⟨some 31, .mov (.t 8), none⟩, ⟨some 32, .call (.c (.fn F.spec_l1Next [] [])) [(.t 30), (.t 31)], none⟩, ⟨some 29, .mov (.t 32), none⟩, ⟨some 33, .ext (.t 29) 0, none⟩, ⟨some 34, .ext (.t 29) 1, none⟩, ⟨some 9, .mov (.t 33), none⟩, ⟨some 10, .mov (.t 34), none⟩]) spec_Lex_b15)) spec_Lex_b14)
def spec_Lex_b30 : HCode := (.cond (.t 25) .skip (.exit 0))
def spec_Lex_l12 : HCode := (.seq (.seq (.reg [⟨some 17, .mov (.t 8), none⟩, ⟨some 18, .mov (.t 0), none⟩, ⟨some 19, .slen (.t 18), none⟩, ⟨some 20, .bin .lss (.t 17) (.t 19), none⟩, ⟨some 21, .mov (.t 20), none⟩, ⟨some 22, .mov (.t 0), some (21, true)⟩, ⟨some 23, .slen (.t 22), some (21, true)⟩, ⟨some 24, .bin .leq (.t 23) (.c (.int .i64 1500)), some (21, true)⟩, ⟨some 25, .pick (.t 21) (.t 24) (.c (.bool false)), none⟩]) spec_Lex_b30) spec_Lex_b13)
def spec_Lex_b11 : HCode := (.block 0 (.loop spec_Lex_l12))
def spec_Lex_b5 : HCode := (.seq (.seq (.reg [⟨some 15, .mov (.t 0), none⟩, ⟨some 16, .call (.c (.fn F.spec_l1Skip [] [])) [(.t 15), (.c (.int .i64 0))], none⟩, ⟨some 8, .mov (.t 16), none⟩]) spec_Lex_b11) spec_Lex_b6)
def spec_Lex_b4 : HCode := (.seq (.reg [⟨some 7, .mov (.c (.int .i64 0)), none⟩]) spec_Lex_b5)
def spec_Lex_b3 : HCode := (.seq (.reg [⟨some 6, .mov (.c (.int .i64 0)), none⟩]) spec_Lex_b4)
def spec_Lex_b2 : HCode := (.seq (.reg [⟨some 5, .mov (.c (.int .i64 1)), none⟩]) spec_Lex_b3)
def spec_Lex_b1 : HCode := (.seq (.reg [⟨some 14, .bslice 4 0 [(.int .i64 0), (.str ⟨⟨[]⟩⟩), (.int .i64 0), (.int .i64 0)] [], none⟩, ⟨some 4, .mov (.t 14), none⟩]) spec_Lex_b2)
def spec_Lex_b0 : HCode := (.seq (.reg [⟨some 2, .mov (.c .nils), none⟩, ⟨some 3, .mov (.c (.bool false)), none⟩]) spec_Lex_b1)
def spec_Lex : HFunc := { np := 1, ntmps := 99, results := [(2, none), (3, none)], body := spec_Lex_b0 }
def laws_FnLex_b13 : HCode := (.seq (.reg [⟨some 162, .mov (.t 12), none⟩, ⟨some 163, .mov (.t 162), none⟩, ⟨some 164, .mov (.t 11), some (163, true)⟩, ⟨some 165, .len (.t 164), some (163, true)⟩, ⟨some 166, .mov (.t 4), some (163, true)⟩, ⟨some 167, .len (.t 166), some (163, true)⟩, ⟨some 168, .bin .eql (.t 165) (.t 167), some (163, true)⟩, ⟨some 169, .pick (.t 163) (.t 168) (.c (.bool false)), none⟩, ⟨some 170, .mov (.t 169), none⟩, ⟨some 171, .mov (.t 4), some (170, true)⟩, ⟨some 172, .mov (.t 4), some (170, true)⟩, ⟨some 173, .len (.t 172), some (170, true)⟩, ⟨some 174, .bin .sub (.t 173) (.c (.int .i64 1)), some (170, true)⟩, ⟨some 175, .iaddr 4 (.t 171) (.t 174), some (170, true)⟩, ⟨some 176, .faddr 0 (.t 175), some (170, true)⟩, ⟨some 177, .load false 1 (.t 176), some (170, true)⟩, ⟨some 178, .bin .eql (.t 177) (.c (.int .i64 6)), some (170, true)⟩, ⟨some 179, .pick (.t 170) (.t 178) (.c (.bool false)), none⟩, ⟨some 2, .mov (.t 179), none⟩]) .ret)
def laws_FnLex_b17 : HCode := (.reg [⟨some 82, .mov (.t 13), none⟩, ⟨some 83, .bin .add (.t 82) (.c (.int .i64 1)), none⟩, ⟨some 13, .mov (.t 83), none⟩])
def laws_FnLex_b19 : HCode := (.seq (.reg [⟨some 2, .mov (.c (.bool false)), none⟩]) .ret)
def laws_FnLex_b18 : HCode := (.cond (.t 161) laws_FnLex_b19 .skip)
def laws_FnLex_b16 : HCode := (.seq (.block 1 (.seq (.dreg (.q ⟨some 84, .mov (.t 4), none⟩ (.q ⟨some 85, .mov (.t 13), none⟩ (.q ⟨some 86, .iaddr 4 (.t 84) (.t 85), none⟩ (.q ⟨some 87, .faddr 0 (.t 86), none⟩ (.q ⟨some 88, .load false 1 (.t 87), none⟩ (.q ⟨some 89, .mov (.t 11), none⟩ (.q ⟨some 90, .mov (.t 13), none⟩ (.q ⟨some 91, .iaddr 4 (.t 89) (.t 90), none⟩ (.q ⟨some 92, .faddr 0 (.t 91), none⟩ (.q ⟨some 93, .load false 1 (.t 92), none⟩ (.q ⟨some 94, .bin .neq (.t 88) (.t 93), none⟩ (.q ⟨some 95, .mov (.t 94), none⟩ (.q ⟨some 96, .mov (.t 4), some (95, false)⟩ (.q ⟨some 97, .mov (.t 13), some (95, false)⟩ (.q ⟨some 98, .iaddr 4 (.t 96) (.t 97), some (95, false)⟩ (.q ⟨some 99, .faddr 1 (.t 98), some (95, false)⟩ (.q ⟨some 100, .load false 1 (.t 99), some (95, false)⟩ (.q ⟨some 101, .mov (.t 11), some (95, false)⟩ (.q ⟨some 102, .mov (.t 13), some (95, false)⟩ (.q ⟨some 103, .iaddr 4 (.t 101) (.t 102), some (95, false)⟩ (.q ⟨some 104, .faddr 1 (.t 103), some (95, false)⟩ (.q ⟨some 105, .load false 1 (.t 104), some (95, false)⟩ (.q ⟨some 106, .bin .neq (.t 100) (.t 105), some (95, false)⟩ (.q ⟨some 107, .pick (.t 95) (.c (.bool true)) (.t 106), none⟩ (.q ⟨some 108, .mov (.t 107), none⟩ (.q ⟨some 109, .mov (.t 11), some (108, false)⟩ (.q ⟨some 110, .mov (.t 13), some (108, false)⟩ (.q ⟨some 111, .iaddr 4 (.t 109) (.t 110), some (108, false)⟩ (.q ⟨some 112, .faddr 2 (.t 111), some (108, false)⟩ (.q ⟨some 113, .load false 1 (.t 112), some (108, false)⟩ (.q ⟨some 114, .bin .neq (.t 113) (.c (.int .i64 1)), some (108, false)⟩ (.q ⟨some 115, .pick (.t 108) (.c (.bool true)) (.t 114), none⟩ (.q ⟨some 116, .mov (.t 115), none⟩ (.q ⟨some 117, .mov (.t 13), some (116, false)⟩ (.q ⟨some 118, .bin .gtr (.t 117) (.c (.int .i64 0)), some (116, false)⟩ (.q ⟨some 119, .mov (.t 118), some (116, false)⟩ (.q ⟨some 120, .mov (.t 4), some (119, true)⟩ (.q ⟨some 121, .mov (.t 13), some (119, true)⟩ (.q ⟨some 122, .iaddr 4 (.t 120) (.t 121), some (119, true)⟩ (.q ⟨some 123, .faddr 2 (.t 122), some (119, true)⟩ (.q ⟨some 124, .load false 1 (.t 123), some (119, true)⟩ (.q ⟨some 125, .mov (.t 4), some (119, true)⟩ (.q ⟨some 126, .mov (.t 13), some (119, true)⟩ (.q ⟨some 127, .bin .sub (.t 126) (.c (.int .i64 1)), some (119, true)⟩ (.q ⟨some 128, .iaddr 4 (.t 125) (.t 127), some (119, true)⟩ (.q ⟨some 129, .faddr 2 (.t 128), some (119, true)⟩ (.q ⟨some 130, .load false 1 (.t 129), some (119, true)⟩ (.q ⟨some 131, .bin .lss (.t 124) (.t 130), some (119, true)⟩ (.q ⟨some 132, .mov (.t 131), some (119, true)⟩ (.q ⟨some 133, .mov (.t 4), some (132, false)⟩ (.q ⟨some 134, .mov (.t 13), some (132, false)⟩ (.q ⟨some 135, .iaddr 4 (.t 133) (.t 134), some (132, false)⟩ (.q ⟨some 136, .faddr 2 (.t 135), some (132, false)⟩ (.q ⟨some 137, .load false 1 (.t 136), some (132, false)⟩ (.q ⟨some 138, .mov (.t 4), some (132, false)⟩ (.q ⟨some 139, .mov (.t 13), some (132, false)⟩ (.q ⟨some 140, .bin .sub (.t 139) (.c (.int .i64 1)), some (132, false)⟩ (.q ⟨some 141, .iaddr 4 (.t 138) (.t 140), some (132, false)⟩ (.q ⟨some 142, .faddr 2 (.t 141), some (132, false)⟩ (.q ⟨some 143, .load false 1 (.t 142), some (132, false)⟩ (.q ⟨some 144, .bin .eql (.t 137) (.t 143), some (132, false)⟩ (.q ⟨some 145, .mov (.t 144), some (132, false)⟩ (.q ⟨some 146, .mov (.t 4), some (145, true)⟩ (.q ⟨some 147, .mov (.t 13), some (145, true)⟩ (.q ⟨some 148, .iaddr 4 (.t 146) (.t 147), some (145, true)⟩ (.q ⟨some 149, .faddr 3 (.t 148), some (145, true)⟩ (.q ⟨some 150, .load false 1 (.t 149), some (145, true)⟩ (.q ⟨some 151, .mov (.t 4), some (145, true)⟩ (.q ⟨some 152, .mov (.t 13), some (145, true)⟩ (.q ⟨some 153, .bin .sub (.t 152) (.c (.int .i64 1)), some (145, true)⟩ (.q ⟨some 154, .iaddr 4 (.t 151) (.t 153), some (145, true)⟩ (.q ⟨some 155, .faddr 3 (.t 154), some (145, true)⟩ (.q ⟨some 156, .load false 1 (.t 155), some (145, true)⟩ (.q ⟨some 157, .bin .lss (.t 150) (.t 156), some (145, true)⟩ (.q ⟨some 158, .pick (.t 145) (.t 157) (.c (.bool false)), some (132, false)⟩ (.q ⟨some 159, .pick (.t 132) (.c (.bool true)) (.t 158), some (119, true)⟩ (.q ⟨some 160, .pick (.t 119) (.t 159) (.c (.bool false)), some (116, false)⟩ (.q ⟨some 161, .pick (.t 116) (.c (.bool true)) (.t 160), none⟩ .done))))))))))))))))))))))))))))))))))))))))))))))))))))))))))))))))))))))))))))))) laws_FnLex_b18)) laws_FnLex_b17)
def laws_FnLex_b20 : HCode := (.cond (.t 81) .skip (.exit 0))
def laws_FnLex_l15 : HCode := (.seq (.seq (.reg [⟨some 72, .mov (.t 13), none⟩, ⟨some 73, .mov (.t 4), none⟩, ⟨some 74, .len (.t 73), none⟩, ⟨some 75, .bin .lss (.t 72) (.t 74), none⟩, ⟨some 76, .mov (.t 75), none⟩, ⟨some 77, .mov (.t 13), some (76, true)⟩, ⟨some 78, .mov (.t 11), some (76, true)⟩, ⟨some 79, .len (.t 78), some (76, true)⟩, ⟨some 80, .bin .lss (.t 77) (.t 79), some (76, true)⟩, ⟨some 81, .pick (.t 76) (.t 80) (.c (.bool false)), none⟩]) laws_FnLex_b20) laws_FnLex_b16)
def laws_FnLex_b14 : HCode := (.block 0 (.loop laws_FnLex_l15))
def laws_FnLex_b12 : HCode := (.seq (.seq (.reg [⟨some 13, .mov (.c (.int .i64 0)), none⟩]) laws_FnLex_b14) laws_FnLex_b13)
def laws_FnLex_b22 : HCode := (.seq (.reg [⟨some 70, .mov (.t 12), none⟩, ⟨some 71, .not (.t 70), none⟩, ⟨some 2, .mov (.t 71), none⟩]) .ret)
def laws_FnLex_b21 : HCode := (.cond (.t 69) laws_FnLex_b22 .skip)
def laws_FnLex_b11 : HCode := (.seq (.seq (.reg [⟨some 67, .mov (.t 10), none⟩, ⟨some 68, .slen (.t 67), none⟩, ⟨some 69, .bin .gtr (.t 68) (.c (.int .i64 1500)), none⟩]) laws_FnLex_b21) laws_FnLex_b12)
def laws_FnLex_b10 : HCode := (.seq (.reg [⟨some 63, .mov (.t 10), none⟩, ⟨some 64, .call (.c (.fn F.impl_Lex [] [])) [(.t 63)], none⟩, ⟨some 62, .mov (.t 64), none⟩, ⟨some 65, .ext (.t 62) 0, none⟩, ⟨some 66, .ext (.t 62) 1, none⟩, ⟨some 11, .mov (.t 65), none⟩, ⟨some 12, .mov (.t 66), none⟩]) laws_FnLex_b11)
def laws_FnLex_b9 : HCode := (.seq (.reg [⟨some 60, .mov (.t 4), none⟩, ⟨some 61, .call (.c (.fn F.impl_TokText [] [])) [(.t 60)], none⟩, ⟨some 10, .mov (.t 61), none⟩]) laws_FnLex_b10)
def laws_FnLex_b24 : HCode := (.seq (.reg [⟨some 57, .mov (.t 4), none⟩, ⟨some 58, .len (.t 57), none⟩, ⟨some 59, .bin .eql (.t 58) (.c (.int .i64 0)), none⟩, ⟨some 2, .mov (.t 59), none⟩]) .ret)
def laws_FnLex_b23 : HCode := (.cond (.t 56) laws_FnLex_b24 .skip)
def laws_FnLex_b8 : HCode := (.seq (.seq (.reg [⟨some 55, .mov (.t 5), none⟩, ⟨some 56, .not (.t 55), none⟩]) laws_FnLex_b23) laws_FnLex_b9)
def laws_FnLex_b26 : HCode := (.seq (.reg [⟨some 2, .mov (.c (.bool false)), none⟩]) .ret)
def laws_FnLex_b25 : HCode := (.cond (.t 54) laws_FnLex_b26 .skip)
def laws_FnLex_b7 : HCode := (.seq (.seq (.reg [⟨some 32, .mov (.t 5), none⟩, ⟨some 33, .mov (.t 7), none⟩, ⟨some 34, .bbin .neq (.t 32) (.t 33), none⟩, ⟨some 35, .mov (.t 34), none⟩, ⟨some 36, .mov (.t 4), some (35, false)⟩, ⟨some 37, .mov (.t 6), some (35, false)⟩, ⟨some 38, .call (.c (.fn F.laws_sameToks [] [])) [(.t 36), (.t 37)], some (35, false)⟩, ⟨some 39, .not (.t 38), some (35, false)⟩, ⟨some 40, .pick (.t 35) (.c (.bool true)) (.t 39), none⟩, ⟨some 41, .mov (.t 40), none⟩, ⟨some 42, .mov (.t 8), some (41, false)⟩, ⟨some 43, .call (.c (.fn F.impl_NameOk [] [])) [(.t 42)], some (41, false)⟩, ⟨some 44, .mov (.t 8), some (41, false)⟩, ⟨some 45, .call (.c (.fn F.spec_NameOk [] [])) [(.t 44)], some (41, false)⟩, ⟨some 46, .bbin .neq (.t 43) (.t 45), some (41, false)⟩, ⟨some 47, .pick (.t 41) (.c (.bool true)) (.t 46), none⟩, ⟨some 48, .mov (.t 47), none⟩, ⟨some 49, .mov (.t 9), some (48, false)⟩, ⟨some 50, .call (.c (.fn F.impl_GreatOk [] [])) [(.t 49)], some (48, false)⟩, ⟨some 51, .mov (.t 9), some (48, false)⟩, ⟨some 52, .call (.c (.fn F.spec_GreatOk [] [])) [(.t 51)], some (48, false)⟩, ⟨some 53, .bbin .neq (.t 50) (.t 52), some (48, false)⟩, ⟨some 54, .pick (.t 48) (.c (.bool true)) (.t 53), none⟩]) laws_FnLex_b25) laws_FnLex_b8)
def laws_FnLex_b6 : HCode := (.seq (.reg [⟨some 30, .mov (.t 0), none⟩, ⟨some 31, .call (.c (.fn F.spec_DrawGreatOk [] [])) [(.t 30)], none⟩, ⟨some 9, .mov (.t 31), none⟩]) laws_FnLex_b7)
def laws_FnLex_b5 : HCode := (.seq (.reg [⟨some 28, .mov (.t 0), none⟩, ⟨some 29, .call (.c (.fn F.spec_DrawNameOk [] [])) [(.t 28)], none⟩, ⟨some 8, .mov (.t 29), none⟩]) laws_FnLex_b6)
def laws_FnLex_b4 : HCode := (.seq (.reg [⟨some 24, .mov (.t 3), none⟩, ⟨some 25, .call (.c (.fn F.spec_Lex [] [])) [(.t 24)], none⟩, ⟨some 23, .mov (.t 25), none⟩, ⟨some 26, .ext (.t 23) 0, none⟩, ⟨some 27, .ext (.t 23) 1, none⟩, ⟨some 6, .mov (.t 26), none⟩, ⟨some 7, .mov (.t 27), none⟩]) laws_FnLex_b5)
def laws_FnLex_b3 : HCode := (.seq (.reg [⟨some 19, .mov (.t 3), none⟩, ⟨some 20, .call (.c (.fn F.impl_Lex [] [])) [(.t 19)], none⟩, ⟨some 18, .mov (.t 20), none⟩, ⟨some 21, .ext (.t 18) 0, none⟩, ⟨some 22, .ext (.t 18) 1, none⟩, ⟨some 4, .mov (.t 21), none⟩, ⟨some 5, .mov (.t 22), none⟩]) laws_FnLex_b4)
def laws_FnLex_b2 : HCode := (.seq (.reg [⟨some 16, .mov (.t 0), none⟩, ⟨some 17, .call (.c (.fn F.spec_DrawLex [] [])) [(.t 16)], none⟩, ⟨some 3, .mov (.t 17), none⟩]) laws_FnLex_b3)
def laws_FnLex_b28 : HCode := (.seq (.reg [⟨some 2, .mov (.c (.bool true)), none⟩]) .ret)
def laws_FnLex_b27 : HCode := (.cond (.t 15) laws_FnLex_b28 .skip)
def laws_FnLex_b1 : HCode := (.seq (.seq (.reg [⟨some 14, .mov (.t 0), none⟩, ⟨some 15, .call (.c (.fn F.laws_big [] [])) [(.t 14)], none⟩]) laws_FnLex_b27) laws_FnLex_b2)
def laws_FnLex_b0 : HCode := (.seq (.reg [⟨some 2, .mov (.c (.bool false)), none⟩]) laws_FnLex_b1)
def laws_FnLex : HFunc := { np := 1, ntmps := 180, results := [(2, none)], body := laws_FnLex_b0 }
end H
namespace S
noncomputable abbrev P : Program := Go.Proofs.Try.prog
theorem impl_isLetter : stripF P F.impl_isLetter = some H.impl_isLetter := by kernel_rfl
theorem impl_isDigit : stripF P F.impl_isDigit = some H.impl_isDigit := by kernel_rfl
theorem impl_in : stripF P F.impl_in = some H.impl_in := by kernel_rfl
theorem impl_wordLike : stripF P F.impl_wordLike = some H.impl_wordLike := by kernel_rfl
theorem impl_GreatOk : stripF P F.impl_GreatOk = some H.impl_GreatOk := by kernel_rfl
theorem internal_stringslite_HasPrefix : stripF P F.internal_stringslite_HasPrefix = some H.internal_stringslite_HasPrefix := by kernel_rfl
theorem strings_HasPrefix : stripF P F.strings_HasPrefix = some H.strings_HasPrefix := by kernel_rfl
theorem impl_passed_1 : stripF P F.impl_passed_1 = some H.impl_passed_1 := by kernel_rfl
theorem impl_runLen : stripF P F.impl_runLen = some H.impl_runLen := by kernel_rfl
theorem impl_passed : stripF P F.impl_passed = some H.impl_passed := by kernel_rfl
theorem slices_Index_string : stripF P F.slices_Index_string = some H.slices_Index_string := by kernel_rfl
theorem slices_Contains_string : stripF P F.slices_Contains_string = some H.slices_Contains_string := by kernel_rfl
theorem slices_Index_byte : stripF P F.slices_Index_byte = some H.slices_Index_byte := by kernel_rfl
theorem slices_Contains_byte : stripF P F.slices_Contains_byte = some H.slices_Contains_byte := by kernel_rfl
theorem impl_nextTok_1 : stripF P F.impl_nextTok_1 = some H.impl_nextTok_1 := by kernel_rfl
theorem impl_words : stripF P F.impl_words = some H.impl_words := by kernel_rfl
theorem impl_numberLike : stripF P F.impl_numberLike = some H.impl_numberLike := by kernel_rfl
theorem impl_NameOk : stripF P F.impl_NameOk = some H.impl_NameOk := by kernel_rfl
theorem impl_nextTok : stripF P F.impl_nextTok = some H.impl_nextTok := by kernel_rfl
theorem impl_Lex : stripF P F.impl_Lex = some H.impl_Lex := by kernel_rfl
theorem impl_TokText : stripF P F.impl_TokText = some H.impl_TokText := by kernel_rfl
theorem spec_l1New : stripF P F.spec_l1New = some H.spec_l1New := by kernel_rfl
theorem spec_l1Byte : stripF P F.spec_l1Byte = some H.spec_l1Byte := by kernel_rfl
theorem spec_l1Below : stripF P F.spec_l1Below = some H.spec_l1Below := by kernel_rfl
theorem spec_l1Str : stripF P F.spec_l1Str = some H.spec_l1Str := by kernel_rfl
theorem spec_DrawNameOk : stripF P F.spec_DrawNameOk = some H.spec_DrawNameOk := by kernel_rfl
theorem laws_sameToks : stripF P F.laws_sameToks = some H.laws_sameToks := by kernel_rfl
theorem laws_big : stripF P F.laws_big = some H.laws_big := by kernel_rfl
theorem spec_DrawGreatOk : stripF P F.spec_DrawGreatOk = some H.spec_DrawGreatOk := by kernel_rfl
theorem spec_l1Prog : stripF P F.spec_l1Prog = some H.spec_l1Prog := by kernel_rfl
theorem spec_l1Word : stripF P F.spec_l1Word = some H.spec_l1Word := by kernel_rfl
theorem spec_l1Text : stripF P F.spec_l1Text = some H.spec_l1Text := by kernel_rfl
theorem spec_l1Once : stripF P F.spec_l1Once = some H.spec_l1Once := by kernel_rfl
theorem spec_DrawLex : stripF P F.spec_DrawLex = some H.spec_DrawLex := by kernel_rfl
theorem spec_l1Skip : stripF P F.spec_l1Skip = some H.spec_l1Skip := by kernel_rfl
theorem spec_l1Has : stripF P F.spec_l1Has = some H.spec_l1Has := by kernel_rfl
theorem spec_l1In : stripF P F.spec_l1In = some H.spec_l1In := by kernel_rfl
theorem spec_l1Digit : stripF P F.spec_l1Digit = some H.spec_l1Digit := by kernel_rfl
theorem spec_l1Large : stripF P F.spec_l1Large = some H.spec_l1Large := by kernel_rfl
theorem spec_l1NumOk : stripF P F.spec_l1NumOk = some H.spec_l1NumOk := by kernel_rfl
theorem spec_l1IsWord : stripF P F.spec_l1IsWord = some H.spec_l1IsWord := by kernel_rfl
theorem spec_l1Small : stripF P F.spec_l1Small = some H.spec_l1Small := by kernel_rfl
theorem spec_l1Letter : stripF P F.spec_l1Letter = some H.spec_l1Letter := by kernel_rfl
theorem spec_l1Letters : stripF P F.spec_l1Letters = some H.spec_l1Letters := by kernel_rfl
theorem spec_GreatOk : stripF P F.spec_GreatOk = some H.spec_GreatOk := by kernel_rfl
theorem spec_NameOk : stripF P F.spec_NameOk = some H.spec_NameOk := by kernel_rfl
theorem spec_l1Kind : stripF P F.spec_l1Kind = some H.spec_l1Kind := by kernel_rfl
theorem spec_l1Next : stripF P F.spec_l1Next = some H.spec_l1Next := by kernel_rfl
theorem spec_l1Place : stripF P F.spec_l1Place = some H.spec_l1Place := by kernel_rfl
theorem spec_Lex : stripF P F.spec_Lex = some H.spec_Lex := by kernel_rfl
theorem laws_FnLex : stripF P F.laws_FnLex = some H.laws_FnLex := by kernel_rfl
end S
end W
