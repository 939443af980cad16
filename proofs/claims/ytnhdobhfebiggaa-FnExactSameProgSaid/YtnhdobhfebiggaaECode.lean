import Derived.Test.YtnhdobhfebiggaaHLVc
import Derived.KernelRfl
import Derived.Test.YtnhdobhfebiggaaProg
namespace W
open Go HL
set_option maxRecDepth 1000000
namespace F
abbrev main_main : Nat := 0
abbrev gosem_cut : Nat := 1
abbrev gosem_cut_init : Nat := 2
abbrev laws_FnExactSameTy : Nat := 3
abbrev laws_FnExactBlocks : Nat := 4
abbrev laws_FnExactVarsOf : Nat := 5
abbrev laws_FnExactLex : Nat := 6
abbrev laws_FnExactSameExp : Nat := 7
abbrev laws_FnExactIsBare : Nat := 8
abbrev laws_FnLex : Nat := 9
abbrev laws_FnExactDataOf : Nat := 10
abbrev laws_FnExactArityOf : Nat := 11
abbrev laws_FnExactSameProg : Nat := 12
abbrev laws_szTy : Nat := 13
abbrev spec_SameTy : Nat := 14
abbrev laws_toTy : Nat := 15
abbrev impl_SameTy : Nat := 16
abbrev laws_eqTy : Nat := 17
abbrev laws_szTokS : Nat := 18
abbrev spec_Blocks : Nat := 19
abbrev laws_toTokS : Nat := 20
abbrev impl_Blocks : Nat := 21
abbrev laws_eqTokS : Nat := 22
abbrev spec_VarsOf : Nat := 23
abbrev impl_VarsOf : Nat := 24
abbrev laws_eqIntS : Nat := 25
abbrev laws_markTy : Nat := 26
abbrev laws_markIntS : Nat := 27
abbrev laws_heldIntS : Nat := 28
abbrev spec_Lex : Nat := 29
abbrev impl_Lex : Nat := 30
abbrev laws_markTokS : Nat := 31
abbrev laws_heldTokS : Nat := 32
abbrev laws_szExp : Nat := 33
abbrev spec_SameExp : Nat := 34
abbrev laws_toExp : Nat := 35
abbrev impl_SameExp : Nat := 36
abbrev laws_eqExp : Nat := 37
abbrev spec_IsBare : Nat := 38
abbrev impl_IsBare : Nat := 39
abbrev laws_big : Nat := 40
abbrev spec_DrawLex : Nat := 41
abbrev spec_DrawNameOk : Nat := 42
abbrev spec_DrawGreatOk : Nat := 43
abbrev laws_sameToks : Nat := 44
abbrev impl_NameOk : Nat := 45
abbrev spec_NameOk : Nat := 46
abbrev impl_GreatOk : Nat := 47
abbrev spec_GreatOk : Nat := 48
abbrev impl_TokText : Nat := 49
abbrev laws_szProg : Nat := 50
abbrev spec_DataOf : Nat := 51
abbrev laws_toProg : Nat := 52
abbrev impl_DataOf : Nat := 53
abbrev laws_eqProg : Nat := 54
abbrev spec_ArityOf : Nat := 55
abbrev impl_ArityOf : Nat := 56
abbrev spec_SameProg : Nat := 57
abbrev impl_SameProg : Nat := 58
abbrev laws_szTyS : Nat := 59
abbrev laws_toTyS : Nat := 60
abbrev slices_EqualFunc_impl_Ty : Nat := 61
abbrev laws_eqTyS : Nat := 62
abbrev laws_szTok : Nat := 63
abbrev spec_l2Is : Nat := 64
abbrev laws_toTok : Nat := 65
abbrev slices_DeleteFunc_impl_Tok : Nat := 66
abbrev slices_Clone_impl_Tok : Nat := 67
abbrev impl_Blocks_1 : Nat := 68
abbrev impl_isMark : Nat := 69
abbrev laws_eqTok : Nat := 70
abbrev spec_l9Vars : Nat := 71
abbrev impl_varsIn : Nat := 72
abbrev laws_markTyS : Nat := 73
abbrev spec_l1Skip : Nat := 74
abbrev spec_l1Next : Nat := 75
abbrev spec_l1Place : Nat := 76
abbrev impl_passed : Nat := 77
abbrev impl_nextTok : Nat := 78
abbrev laws_markText : Nat := 79
abbrev laws_szExpS : Nat := 80
abbrev laws_szDecS : Nat := 81
abbrev laws_szAltS : Nat := 82
abbrev spec_l3SameDecs : Nat := 83
abbrev spec_l3SameTexts : Nat := 84
abbrev laws_toExpS : Nat := 85
abbrev laws_toDecS : Nat := 86
abbrev laws_toAltS : Nat := 87
abbrev slices_EqualFunc_impl_Exp : Nat := 88
abbrev slices_EqualFunc_impl_Dec : Nat := 89
abbrev impl_sameDec : Nat := 90
abbrev slices_EqualFunc_impl_Alt : Nat := 91
abbrev impl_sameAlt : Nat := 92
abbrev laws_eqExpS : Nat := 93
abbrev laws_eqDecS : Nat := 94
abbrev laws_eqAltS : Nat := 95
abbrev spec_l11Is : Nat := 96
abbrev impl_counted : Nat := 97
abbrev impl_IsBare_1 : Nat := 98
abbrev slices_ContainsFunc_impl_Dec : Nat := 99
abbrev impl_IsBare_1_1 : Nat := 100
abbrev spec_l1New : Nat := 101
abbrev spec_l1Text : Nat := 102
abbrev spec_l1Below : Nat := 103
abbrev spec_l1Str : Nat := 104
abbrev spec_l1Prog : Nat := 105
abbrev spec_l1Once : Nat := 106
abbrev impl_wordLike : Nat := 107
abbrev slices_Contains_string : Nat := 108
abbrev impl_words : Nat := 109
abbrev spec_l1Letters : Nat := 110
abbrev spec_l1Small : Nat := 111
abbrev spec_l1IsWord : Nat := 112
abbrev spec_l1Large : Nat := 113
abbrev strings_Join : Nat := 114
abbrev laws_szDataS : Nat := 115
abbrev laws_toDataS : Nat := 116
abbrev impl_isBool : Nat := 117
abbrev impl_conOf : Nat := 118
abbrev laws_eqDataS : Nat := 119
abbrev spec_l3SameData : Nat := 120
abbrev slices_EqualFunc_impl_Data : Nat := 121
abbrev impl_sameData : Nat := 122
abbrev slices_IndexFunc_impl_Tok : Nat := 123
abbrev spec_l9Has : Nat := 124
abbrev slices_Contains_int : Nat := 125
abbrev spec_l1Digit : Nat := 126
abbrev spec_l1NumOk : Nat := 127
abbrev spec_l1Letter : Nat := 128
abbrev spec_l1Kind : Nat := 129
abbrev spec_l1Has : Nat := 130
abbrev strings_HasPrefix : Nat := 131
abbrev impl_runLen : Nat := 132
abbrev impl_passed_1 : Nat := 133
abbrev impl_isLetter : Nat := 134
abbrev impl_nextTok_1 : Nat := 135
abbrev impl_isDigit : Nat := 136
abbrev impl_numberLike : Nat := 137
abbrev slices_Contains_byte : Nat := 138
abbrev laws_szDec : Nat := 139
abbrev laws_szAlt : Nat := 140
abbrev laws_toDec : Nat := 141
abbrev laws_toAlt : Nat := 142
abbrev slices_Equal_string : Nat := 143
abbrev laws_eqDec : Nat := 144
abbrev laws_eqAlt : Nat := 145
abbrev impl_mapped : Nat := 146
abbrev impl_counted_1 : Nat := 147
abbrev slices_IndexFunc_impl_Dec : Nat := 148
abbrev spec_l1Word : Nat := 149
abbrev spec_l1Byte : Nat := 150
abbrev impl_in : Nat := 151
abbrev slices_Index_string : Nat := 152
abbrev spec_l1In : Nat := 153
abbrev strings_Builder_Grow : Nat := 154
abbrev strings_Builder_WriteString : Nat := 155
abbrev strings_Builder_String : Nat := 156
abbrev laws_szData : Nat := 157
abbrev laws_toData : Nat := 158
abbrev laws_eqData : Nat := 159
abbrev slices_EqualFunc_impl_Con : Nat := 160
abbrev impl_sameCon : Nat := 161
abbrev slices_Index_int : Nat := 162
abbrev internal_stringslite_HasPrefix : Nat := 163
abbrev slices_Index_byte : Nat := 164
abbrev laws_szStringS : Nat := 165
abbrev laws_toStringS : Nat := 166
abbrev laws_eqStringS : Nat := 167
abbrev impl_mappedDecs : Nat := 168
abbrev slices_Clone_string : Nat := 169
abbrev strings_Builder_copyCheck : Nat := 170
abbrev strings_Builder_grow : Nat := 171
abbrev laws_szConS : Nat := 172
abbrev laws_toConS : Nat := 173
abbrev laws_eqConS : Nat := 174
abbrev internal_abi_NoEscape : Nat := 175
abbrev internal_bytealg_MakeNoZero : Nat := 176
abbrev laws_szCon : Nat := 177
abbrev laws_toCon : Nat := 178
abbrev laws_eqCon : Nat := 179
abbrev runtime_boundsError_Error : Nat := 180
abbrev runtime_boundsError_RuntimeError : Nat := 181
abbrev runtime_errorString_Error : Nat := 182
abbrev runtime_errorString_RuntimeError : Nat := 183
abbrev runtime_plainError_Error : Nat := 184
abbrev runtime_plainError_RuntimeError : Nat := 185
abbrev runtime_errorAddressString_Error : Nat := 186
abbrev runtime_errorAddressString_RuntimeError : Nat := 187
abbrev runtime_TypeAssertionError_Error : Nat := 188
abbrev runtime_TypeAssertionError_RuntimeError : Nat := 189
abbrev runtime_PanicNilError_Error : Nat := 190
abbrev runtime_PanicNilError_RuntimeError : Nat := 191
abbrev internal_abi_Type_Align : Nat := 192
abbrev internal_runtime_maps_unhashableTypeError_Error : Nat := 193
abbrev internal_runtime_maps_unhashableTypeError_RuntimeError : Nat := 194
abbrev strings_Builder_Reset : Nat := 195
abbrev internal_abi_Kind_String : Nat := 196
end F
namespace H
def slices_Equal_string_b3 : HCode := (.seq (.reg [⟨some 4, .mov (.c (.bool true)), none⟩]) .ret)
def slices_Equal_string_b8 : HCode := (.reg [⟨some 25, .bin .add (.t 13) (.c (.int .i64 1)), none⟩, ⟨some 13, .mov (.t 25), none⟩])
def slices_Equal_string_b11 : HCode := (.seq (.reg [⟨some 4, .mov (.c (.bool false)), none⟩]) .ret)
def slices_Equal_string_b10 : HCode := (.cond (.t 24) slices_Equal_string_b11 .skip)
def slices_Equal_string_b9 : HCode := (.seq (.dreg (.q ⟨some 16, .mov (.t 0), none⟩ (.q ⟨some 17, .mov (.t 5), none⟩ (.q ⟨some 18, .iaddr 1 (.t 16) (.t 17), none⟩ (.q ⟨some 19, .load false 1 (.t 18), none⟩ (.q ⟨some 20, .mov (.t 1), none⟩ (.q ⟨some 21, .mov (.t 5), none⟩ (.q ⟨some 22, .iaddr 1 (.t 20) (.t 21), none⟩ (.q ⟨some 23, .load false 1 (.t 22), none⟩ (.q ⟨some 24, .bin .neq (.t 19) (.t 23), none⟩ .done)))))))))) slices_Equal_string_b10)
def slices_Equal_string_b7 : HCode := (.seq (.block 1 (.seq (.reg [⟨some 15, .mov (.t 13), none⟩, ⟨some 5, .mov (.t 15), none⟩]) slices_Equal_string_b9)) slices_Equal_string_b8)
def slices_Equal_string_b6 : HCode := (.seq (.cond (.t 14) .skip (.exit 0)) slices_Equal_string_b7)
def slices_Equal_string_l5 : HCode := (.seq (.reg [⟨some 14, .bin .lss (.t 13) (.t 12), none⟩]) slices_Equal_string_b6)
def slices_Equal_string_b4 : HCode := (.block 0 (.loop slices_Equal_string_l5))
def slices_Equal_string_b2 : HCode := (.seq (.seq (.reg [⟨some 11, .mov (.t 0), none⟩, ⟨some 12, .len (.t 11), none⟩, ⟨some 13, .mov (.c (.int .i64 0)), none⟩]) slices_Equal_string_b4) slices_Equal_string_b3)
def slices_Equal_string_b13 : HCode := (.seq (.reg [⟨some 4, .mov (.c (.bool false)), none⟩]) .ret)
def slices_Equal_string_b12 : HCode := (.cond (.t 10) slices_Equal_string_b13 .skip)
def slices_Equal_string_b1 : HCode := (.seq (.seq (.reg [⟨some 6, .mov (.t 0), none⟩, ⟨some 7, .len (.t 6), none⟩, ⟨some 8, .mov (.t 1), none⟩, ⟨some 9, .len (.t 8), none⟩, ⟨some 10, .bin .neq (.t 7) (.t 9), none⟩]) slices_Equal_string_b12) slices_Equal_string_b2)
def slices_Equal_string_b0 : HCode := (.seq (.reg [⟨some 4, .mov (.c (.bool false)), none⟩]) slices_Equal_string_b1)
def slices_Equal_string : HFunc := { np := 2, ntmps := 26, results := [(4, none)], body := slices_Equal_string_b0 }
def impl_SameExp_b1 : HCode := (.seq (.reg [⟨some 5, .faddr 0 (.t 2), none⟩, ⟨some 6, .load false 1 (.t 5), none⟩, ⟨some 7, .faddr 0 (.t 3), none⟩, ⟨some 8, .load false 1 (.t 7), none⟩, ⟨some 9, .bin .eql (.t 6) (.t 8), none⟩, ⟨some 10, .mov (.t 9), none⟩, ⟨some 11, .faddr 1 (.t 2), some (10, true)⟩, ⟨some 12, .load false 1 (.t 11), some (10, true)⟩, ⟨some 13, .faddr 1 (.t 3), some (10, true)⟩, ⟨some 14, .load false 1 (.t 13), some (10, true)⟩, ⟨some 15, .bin .eql (.t 12) (.t 14), some (10, true)⟩, ⟨some 16, .pick (.t 10) (.t 15) (.c (.bool false)), none⟩, ⟨some 17, .mov (.t 16), none⟩, ⟨some 18, .faddr 2 (.t 2), some (17, true)⟩, ⟨some 19, .load false 1 (.t 18), some (17, true)⟩, ⟨some 20, .faddr 2 (.t 3), some (17, true)⟩, ⟨some 21, .load false 1 (.t 20), some (17, true)⟩, ⟨some 22, .bin .eql (.t 19) (.t 21), some (17, true)⟩, ⟨some 23, .pick (.t 17) (.t 22) (.c (.bool false)), none⟩, ⟨some 24, .mov (.t 23), none⟩, ⟨some 25, .faddr 3 (.t 2), some (24, true)⟩, ⟨some 26, .load false 1 (.t 25), some (24, true)⟩, ⟨some 27, .faddr 3 (.t 3), some (24, true)⟩, ⟨some 28, .load false 1 (.t 27), some (24, true)⟩, ⟨some 29, .call (.c (.fn F.slices_EqualFunc_impl_Exp [] [])) [(.t 26), (.t 28), (.c (.fn F.impl_SameExp [] []))], some (24, true)⟩, ⟨some 30, .pick (.t 24) (.t 29) (.c (.bool false)), none⟩, ⟨some 31, .mov (.t 30), none⟩, ⟨some 32, .faddr 4 (.t 2), some (31, true)⟩, ⟨some 33, .load false 1 (.t 32), some (31, true)⟩, ⟨some 34, .faddr 4 (.t 3), some (31, true)⟩, ⟨some 35, .load false 1 (.t 34), some (31, true)⟩, ⟨some 36, .call (.c (.fn F.slices_EqualFunc_impl_Dec [] [])) [(.t 33), (.t 35), (.c (.fn F.impl_sameDec [] []))], some (31, true)⟩, ⟨some 37, .pick (.t 31) (.t 36) (.c (.bool false)), none⟩, ⟨some 38, .mov (.t 37), none⟩, ⟨some 39, .faddr 5 (.t 2), some (38, true)⟩, ⟨some 40, .load false 1 (.t 39), some (38, true)⟩, ⟨some 41, .faddr 5 (.t 3), some (38, true)⟩, ⟨some 42, .load false 1 (.t 41), some (38, true)⟩, ⟨some 43, .call (.c (.fn F.slices_EqualFunc_impl_Alt [] [])) [(.t 40), (.t 42), (.c (.fn F.impl_sameAlt [] []))], some (38, true)⟩, ⟨some 44, .pick (.t 38) (.t 43) (.c (.bool false)), none⟩, ⟨some 4, .mov (.t 44), none⟩]) .ret)
def impl_SameExp_b0 : HCode := (.seq (.reg [⟨some 2, .box (.t 0), none⟩, ⟨some 3, .box (.t 1), none⟩, ⟨some 4, .mov (.c (.bool false)), none⟩]) impl_SameExp_b1)
def impl_SameExp : HFunc := { np := 2, ntmps := 45, results := [(4, none)], body := impl_SameExp_b0 }
def impl_sameAlt_b1 : HCode := (.seq (.reg [⟨some 5, .faddr 0 (.t 2), none⟩, ⟨some 6, .load false 1 (.t 5), none⟩, ⟨some 7, .faddr 0 (.t 3), none⟩, ⟨some 8, .load false 1 (.t 7), none⟩, ⟨some 9, .bin .eql (.t 6) (.t 8), none⟩, ⟨some 10, .mov (.t 9), none⟩, ⟨some 11, .faddr 1 (.t 2), some (10, true)⟩, ⟨some 12, .load false 1 (.t 11), some (10, true)⟩, ⟨some 13, .faddr 1 (.t 3), some (10, true)⟩, ⟨some 14, .load false 1 (.t 13), some (10, true)⟩, ⟨some 15, .call (.c (.fn F.slices_Equal_string [] [])) [(.t 12), (.t 14)], some (10, true)⟩, ⟨some 16, .pick (.t 10) (.t 15) (.c (.bool false)), none⟩, ⟨some 17, .mov (.t 16), none⟩, ⟨some 18, .faddr 2 (.t 2), some (17, true)⟩, ⟨some 19, .load true 6 (.t 18), some (17, true)⟩, ⟨some 20, .faddr 2 (.t 3), some (17, true)⟩, ⟨some 21, .load true 6 (.t 20), some (17, true)⟩, ⟨some 22, .call (.c (.fn F.impl_SameExp [] [])) [(.t 19), (.t 21)], some (17, true)⟩, ⟨some 23, .pick (.t 17) (.t 22) (.c (.bool false)), none⟩, ⟨some 4, .mov (.t 23), none⟩]) .ret)
def impl_sameAlt_b0 : HCode := (.seq (.reg [⟨some 2, .box (.t 0), none⟩, ⟨some 3, .box (.t 1), none⟩, ⟨some 4, .mov (.c (.bool false)), none⟩]) impl_sameAlt_b1)
def impl_sameAlt : HFunc := { np := 2, ntmps := 24, results := [(4, none)], body := impl_sameAlt_b0 }
def impl_sameDec_b1 : HCode := (.seq (.reg [⟨some 5, .faddr 0 (.t 2), none⟩, ⟨some 6, .load false 1 (.t 5), none⟩, ⟨some 7, .faddr 0 (.t 3), none⟩, ⟨some 8, .load false 1 (.t 7), none⟩, ⟨some 9, .bin .eql (.t 6) (.t 8), none⟩, ⟨some 10, .mov (.t 9), none⟩, ⟨some 11, .faddr 1 (.t 2), some (10, true)⟩, ⟨some 12, .load false 1 (.t 11), some (10, true)⟩, ⟨some 13, .faddr 1 (.t 3), some (10, true)⟩, ⟨some 14, .load false 1 (.t 13), some (10, true)⟩, ⟨some 15, .call (.c (.fn F.slices_Equal_string [] [])) [(.t 12), (.t 14)], some (10, true)⟩, ⟨some 16, .pick (.t 10) (.t 15) (.c (.bool false)), none⟩, ⟨some 17, .mov (.t 16), none⟩, ⟨some 18, .faddr 2 (.t 2), some (17, true)⟩, ⟨some 19, .load true 6 (.t 18), some (17, true)⟩, ⟨some 20, .faddr 2 (.t 3), some (17, true)⟩, ⟨some 21, .load true 6 (.t 20), some (17, true)⟩, ⟨some 22, .call (.c (.fn F.impl_SameExp [] [])) [(.t 19), (.t 21)], some (17, true)⟩, ⟨some 23, .pick (.t 17) (.t 22) (.c (.bool false)), none⟩, ⟨some 24, .mov (.t 23), none⟩, ⟨some 25, .faddr 8 (.t 2), some (24, true)⟩, ⟨some 26, .load false 1 (.t 25), some (24, true)⟩, ⟨some 27, .faddr 8 (.t 3), some (24, true)⟩, ⟨some 28, .load false 1 (.t 27), some (24, true)⟩, ⟨some 29, .call (.c (.fn F.slices_EqualFunc_impl_Dec [] [])) [(.t 26), (.t 28), (.c (.fn F.impl_sameDec [] []))], some (24, true)⟩, ⟨some 30, .pick (.t 24) (.t 29) (.c (.bool false)), none⟩, ⟨some 4, .mov (.t 30), none⟩]) .ret)
def impl_sameDec_b0 : HCode := (.seq (.reg [⟨some 2, .box (.t 0), none⟩, ⟨some 3, .box (.t 1), none⟩, ⟨some 4, .mov (.c (.bool false)), none⟩]) impl_sameDec_b1)
def impl_sameDec : HFunc := { np := 2, ntmps := 31, results := [(4, none)], body := impl_sameDec_b0 }
def slices_EqualFunc_impl_Alt_b3 : HCode := (.seq (.reg [⟨some 6, .mov (.c (.bool true)), none⟩]) .ret)
def slices_EqualFunc_impl_Alt_b8 : HCode := (.reg [⟨some 31, .bin .add (.t 17) (.c (.int .i64 1)), none⟩, ⟨some 17, .mov (.t 31), none⟩])
def slices_EqualFunc_impl_Alt_b12 : HCode := (.seq (.reg [⟨some 6, .mov (.c (.bool false)), none⟩]) .ret)
def slices_EqualFunc_impl_Alt_b11 : HCode := (.cond (.t 30) slices_EqualFunc_impl_Alt_b12 .skip)
def slices_EqualFunc_impl_Alt_b10 : HCode := (.seq (.reg [⟨some 26, .mov (.t 2), none⟩, ⟨some 27, .load true 8 (.t 8), none⟩, ⟨some 28, .load true 8 (.t 9), none⟩, ⟨some 29, .call (.t 26) [(.t 27), (.t 28)], none⟩, ⟨some 30, .not (.t 29), none⟩]) slices_EqualFunc_impl_Alt_b11)
def slices_EqualFunc_impl_Alt_b9 : HCode := (.seq (.reg [⟨some 22, .mov (.t 1), none⟩, ⟨some 23, .mov (.t 7), none⟩, ⟨some 24, .iaddr 8 (.t 22) (.t 23), none⟩, ⟨some 25, .load true 8 (.t 24), none⟩, ⟨some 9, .alloc (.agg [(.str ⟨⟨[]⟩⟩), .nils, (.int .i64 0), (.str ⟨⟨[]⟩⟩), (.int .i64 0), .nils, .nils, .nils]), none⟩, ⟨none, .store 8 (.t 9) (.t 25), none⟩]) slices_EqualFunc_impl_Alt_b10)
def slices_EqualFunc_impl_Alt_b7 : HCode := (.seq (.block 1 (.seq (.reg [⟨some 19, .mov (.t 17), none⟩, ⟨some 20, .iaddr 8 (.t 15) (.t 17), none⟩, ⟨some 21, .load true 8 (.t 20), none⟩, ⟨some 8, .alloc (.agg [(.str ⟨⟨[]⟩⟩), .nils, (.int .i64 0), (.str ⟨⟨[]⟩⟩), (.int .i64 0), .nils, .nils, .nils]), none⟩, ⟨some 7, .mov (.t 19), none⟩, ⟨none, .store 8 (.t 8) (.t 21), none⟩]) slices_EqualFunc_impl_Alt_b9)) slices_EqualFunc_impl_Alt_b8)
def slices_EqualFunc_impl_Alt_b6 : HCode := (.seq (.cond (.t 18) .skip (.exit 0)) slices_EqualFunc_impl_Alt_b7)
def slices_EqualFunc_impl_Alt_l5 : HCode := (.seq (.reg [⟨some 18, .bin .lss (.t 17) (.t 16), none⟩]) slices_EqualFunc_impl_Alt_b6)
def slices_EqualFunc_impl_Alt_b4 : HCode := (.block 0 (.loop slices_EqualFunc_impl_Alt_l5))
def slices_EqualFunc_impl_Alt_b2 : HCode := (.seq (.seq (.reg [⟨some 15, .mov (.t 0), none⟩, ⟨some 16, .len (.t 15), none⟩, ⟨some 17, .mov (.c (.int .i64 0)), none⟩]) slices_EqualFunc_impl_Alt_b4) slices_EqualFunc_impl_Alt_b3)
def slices_EqualFunc_impl_Alt_b14 : HCode := (.seq (.reg [⟨some 6, .mov (.c (.bool false)), none⟩]) .ret)
def slices_EqualFunc_impl_Alt_b13 : HCode := (.cond (.t 14) slices_EqualFunc_impl_Alt_b14 .skip)
def slices_EqualFunc_impl_Alt_b1 : HCode := (.seq (.seq (.reg [⟨some 10, .mov (.t 0), none⟩, ⟨some 11, .len (.t 10), none⟩, ⟨some 12, .mov (.t 1), none⟩, ⟨some 13, .len (.t 12), none⟩, ⟨some 14, .bin .neq (.t 11) (.t 13), none⟩]) slices_EqualFunc_impl_Alt_b13) slices_EqualFunc_impl_Alt_b2)
def slices_EqualFunc_impl_Alt_b0 : HCode := (.seq (.reg [⟨some 6, .mov (.c (.bool false)), none⟩]) slices_EqualFunc_impl_Alt_b1)
def slices_EqualFunc_impl_Alt : HFunc := { np := 3, ntmps := 32, results := [(6, none)], body := slices_EqualFunc_impl_Alt_b0 }
def slices_EqualFunc_impl_Dec_b3 : HCode := (.seq (.reg [⟨some 6, .mov (.c (.bool true)), none⟩]) .ret)
def slices_EqualFunc_impl_Dec_b8 : HCode := (.reg [⟨some 31, .bin .add (.t 17) (.c (.int .i64 1)), none⟩, ⟨some 17, .mov (.t 31), none⟩])
def slices_EqualFunc_impl_Dec_b12 : HCode := (.seq (.reg [⟨some 6, .mov (.c (.bool false)), none⟩]) .ret)
def slices_EqualFunc_impl_Dec_b11 : HCode := (.cond (.t 30) slices_EqualFunc_impl_Dec_b12 .skip)
def slices_EqualFunc_impl_Dec_b10 : HCode := (.seq (.reg [⟨some 26, .mov (.t 2), none⟩, ⟨some 27, .load true 9 (.t 8), none⟩, ⟨some 28, .load true 9 (.t 9), none⟩, ⟨some 29, .call (.t 26) [(.t 27), (.t 28)], none⟩, ⟨some 30, .not (.t 29), none⟩]) slices_EqualFunc_impl_Dec_b11)
def slices_EqualFunc_impl_Dec_b9 : HCode := (.seq (.reg [⟨some 22, .mov (.t 1), none⟩, ⟨some 23, .mov (.t 7), none⟩, ⟨some 24, .iaddr 9 (.t 22) (.t 23), none⟩, ⟨some 25, .load true 9 (.t 24), none⟩, ⟨some 9, .alloc (.agg [(.str ⟨⟨[]⟩⟩), .nils, (.int .i64 0), (.str ⟨⟨[]⟩⟩), (.int .i64 0), .nils, .nils, .nils, .nils]), none⟩, ⟨none, .store 9 (.t 9) (.t 25), none⟩]) slices_EqualFunc_impl_Dec_b10)
def slices_EqualFunc_impl_Dec_b7 : HCode := (.seq (.block 1 (.seq (.reg [⟨some 19, .mov (.t 17), none⟩, ⟨some 20, .iaddr 9 (.t 15) (.t 17), none⟩, ⟨some 21, .load true 9 (.t 20), none⟩, ⟨some 8, .alloc (.agg [(.str ⟨⟨[]⟩⟩), .nils, (.int .i64 0), (.str ⟨⟨[]⟩⟩), (.int .i64 0), .nils, .nils, .nils, .nils]), none⟩, ⟨some 7, .mov (.t 19), none⟩, ⟨none, .store 9 (.t 8) (.t 21), none⟩]) slices_EqualFunc_impl_Dec_b9)) slices_EqualFunc_impl_Dec_b8)
def slices_EqualFunc_impl_Dec_b6 : HCode := (.seq (.cond (.t 18) .skip (.exit 0)) slices_EqualFunc_impl_Dec_b7)
def slices_EqualFunc_impl_Dec_l5 : HCode := (.seq (.reg [⟨some 18, .bin .lss (.t 17) (.t 16), none⟩]) slices_EqualFunc_impl_Dec_b6)
def slices_EqualFunc_impl_Dec_b4 : HCode := (.block 0 (.loop slices_EqualFunc_impl_Dec_l5))
def slices_EqualFunc_impl_Dec_b2 : HCode := (.seq (.seq (.reg [⟨some 15, .mov (.t 0), none⟩, ⟨some 16, .len (.t 15), none⟩, ⟨some 17, .mov (.c (.int .i64 0)), none⟩]) slices_EqualFunc_impl_Dec_b4) slices_EqualFunc_impl_Dec_b3)
def slices_EqualFunc_impl_Dec_b14 : HCode := (.seq (.reg [⟨some 6, .mov (.c (.bool false)), none⟩]) .ret)
def slices_EqualFunc_impl_Dec_b13 : HCode := (.cond (.t 14) slices_EqualFunc_impl_Dec_b14 .skip)
def slices_EqualFunc_impl_Dec_b1 : HCode := (.seq (.seq (.reg [⟨some 10, .mov (.t 0), none⟩, ⟨some 11, .len (.t 10), none⟩, ⟨some 12, .mov (.t 1), none⟩, ⟨some 13, .len (.t 12), none⟩, ⟨some 14, .bin .neq (.t 11) (.t 13), none⟩]) slices_EqualFunc_impl_Dec_b13) slices_EqualFunc_impl_Dec_b2)
def slices_EqualFunc_impl_Dec_b0 : HCode := (.seq (.reg [⟨some 6, .mov (.c (.bool false)), none⟩]) slices_EqualFunc_impl_Dec_b1)
def slices_EqualFunc_impl_Dec : HFunc := { np := 3, ntmps := 32, results := [(6, none)], body := slices_EqualFunc_impl_Dec_b0 }
def slices_EqualFunc_impl_Exp_b3 : HCode := (.seq (.reg [⟨some 6, .mov (.c (.bool true)), none⟩]) .ret)
def slices_EqualFunc_impl_Exp_b8 : HCode := (.reg [⟨some 31, .bin .add (.t 17) (.c (.int .i64 1)), none⟩, ⟨some 17, .mov (.t 31), none⟩])
def slices_EqualFunc_impl_Exp_b12 : HCode := (.seq (.reg [⟨some 6, .mov (.c (.bool false)), none⟩]) .ret)
def slices_EqualFunc_impl_Exp_b11 : HCode := (.cond (.t 30) slices_EqualFunc_impl_Exp_b12 .skip)
def slices_EqualFunc_impl_Exp_b10 : HCode := (.seq (.reg [⟨some 26, .mov (.t 2), none⟩, ⟨some 27, .load true 6 (.t 8), none⟩, ⟨some 28, .load true 6 (.t 9), none⟩, ⟨some 29, .call (.t 26) [(.t 27), (.t 28)], none⟩, ⟨some 30, .not (.t 29), none⟩]) slices_EqualFunc_impl_Exp_b11)
def slices_EqualFunc_impl_Exp_b9 : HCode := (.seq (.reg [⟨some 22, .mov (.t 1), none⟩, ⟨some 23, .mov (.t 7), none⟩, ⟨some 24, .iaddr 6 (.t 22) (.t 23), none⟩, ⟨some 25, .load true 6 (.t 24), none⟩, ⟨some 9, .alloc (.agg [(.int .i64 0), (.str ⟨⟨[]⟩⟩), (.int .i64 0), .nils, .nils, .nils]), none⟩, ⟨none, .store 6 (.t 9) (.t 25), none⟩]) slices_EqualFunc_impl_Exp_b10)
def slices_EqualFunc_impl_Exp_b7 : HCode := (.seq (.block 1 (.seq (.reg [⟨some 19, .mov (.t 17), none⟩, ⟨some 20, .iaddr 6 (.t 15) (.t 17), none⟩, ⟨some 21, .load true 6 (.t 20), none⟩, ⟨some 8, .alloc (.agg [(.int .i64 0), (.str ⟨⟨[]⟩⟩), (.int .i64 0), .nils, .nils, .nils]), none⟩, ⟨some 7, .mov (.t 19), none⟩, ⟨none, .store 6 (.t 8) (.t 21), none⟩]) slices_EqualFunc_impl_Exp_b9)) slices_EqualFunc_impl_Exp_b8)
def slices_EqualFunc_impl_Exp_b6 : HCode := (.seq (.cond (.t 18) .skip (.exit 0)) slices_EqualFunc_impl_Exp_b7)
def slices_EqualFunc_impl_Exp_l5 : HCode := (.seq (.reg [⟨some 18, .bin .lss (.t 17) (.t 16), none⟩]) slices_EqualFunc_impl_Exp_b6)
def slices_EqualFunc_impl_Exp_b4 : HCode := (.block 0 (.loop slices_EqualFunc_impl_Exp_l5))
def slices_EqualFunc_impl_Exp_b2 : HCode := (.seq (.seq (.reg [⟨some 15, .mov (.t 0), none⟩, ⟨some 16, .len (.t 15), none⟩, ⟨some 17, .mov (.c (.int .i64 0)), none⟩]) slices_EqualFunc_impl_Exp_b4) slices_EqualFunc_impl_Exp_b3)
def slices_EqualFunc_impl_Exp_b14 : HCode := (.seq (.reg [⟨some 6, .mov (.c (.bool false)), none⟩]) .ret)
def slices_EqualFunc_impl_Exp_b13 : HCode := (.cond (.t 14) slices_EqualFunc_impl_Exp_b14 .skip)
def slices_EqualFunc_impl_Exp_b1 : HCode := (.seq (.seq (.reg [⟨some 10, .mov (.t 0), none⟩, ⟨some 11, .len (.t 10), none⟩, ⟨some 12, .mov (.t 1), none⟩, ⟨some 13, .len (.t 12), none⟩, ⟨some 14, .bin .neq (.t 11) (.t 13), none⟩]) slices_EqualFunc_impl_Exp_b13) slices_EqualFunc_impl_Exp_b2)
def slices_EqualFunc_impl_Exp_b0 : HCode := (.seq (.reg [⟨some 6, .mov (.c (.bool false)), none⟩]) slices_EqualFunc_impl_Exp_b1)
def slices_EqualFunc_impl_Exp : HFunc := { np := 3, ntmps := 32, results := [(6, none)], body := slices_EqualFunc_impl_Exp_b0 }
def impl_SameTy_b1 : HCode := (.seq (.reg [⟨some 5, .faddr 0 (.t 2), none⟩, ⟨some 6, .load false 1 (.t 5), none⟩, ⟨some 7, .faddr 0 (.t 3), none⟩, ⟨some 8, .load false 1 (.t 7), none⟩, ⟨some 9, .bin .eql (.t 6) (.t 8), none⟩, ⟨some 10, .mov (.t 9), none⟩, ⟨some 11, .faddr 1 (.t 2), some (10, true)⟩, ⟨some 12, .load false 1 (.t 11), some (10, true)⟩, ⟨some 13, .faddr 1 (.t 3), some (10, true)⟩, ⟨some 14, .load false 1 (.t 13), some (10, true)⟩, ⟨some 15, .bin .eql (.t 12) (.t 14), some (10, true)⟩, ⟨some 16, .pick (.t 10) (.t 15) (.c (.bool false)), none⟩, ⟨some 17, .mov (.t 16), none⟩, ⟨some 18, .faddr 2 (.t 2), some (17, true)⟩, ⟨some 19, .load false 1 (.t 18), some (17, true)⟩, ⟨some 20, .faddr 2 (.t 3), some (17, true)⟩, ⟨some 21, .load false 1 (.t 20), some (17, true)⟩, ⟨some 22, .bin .eql (.t 19) (.t 21), some (17, true)⟩, ⟨some 23, .pick (.t 17) (.t 22) (.c (.bool false)), none⟩, ⟨some 24, .mov (.t 23), none⟩, ⟨some 25, .faddr 3 (.t 2), some (24, true)⟩, ⟨some 26, .load false 1 (.t 25), some (24, true)⟩, ⟨some 27, .faddr 3 (.t 3), some (24, true)⟩, ⟨some 28, .load false 1 (.t 27), some (24, true)⟩, ⟨some 29, .call (.c (.fn F.slices_EqualFunc_impl_Ty [] [])) [(.t 26), (.t 28), (.c (.fn F.impl_SameTy [] []))], some (24, true)⟩, ⟨some 30, .pick (.t 24) (.t 29) (.c (.bool false)), none⟩, ⟨some 4, .mov (.t 30), none⟩]) .ret)
def impl_SameTy_b0 : HCode := (.seq (.reg [⟨some 2, .box (.t 0), none⟩, ⟨some 3, .box (.t 1), none⟩, ⟨some 4, .mov (.c (.bool false)), none⟩]) impl_SameTy_b1)
def impl_SameTy : HFunc := { np := 2, ntmps := 31, results := [(4, none)], body := impl_SameTy_b0 }
def slices_EqualFunc_impl_Ty_b3 : HCode := (.seq (.reg [⟨some 6, .mov (.c (.bool true)), none⟩]) .ret)
def slices_EqualFunc_impl_Ty_b8 : HCode := (.reg [⟨some 31, .bin .add (.t 17) (.c (.int .i64 1)), none⟩, ⟨some 17, .mov (.t 31), none⟩])
def slices_EqualFunc_impl_Ty_b12 : HCode := (.seq (.reg [⟨some 6, .mov (.c (.bool false)), none⟩]) .ret)
def slices_EqualFunc_impl_Ty_b11 : HCode := (.cond (.t 30) slices_EqualFunc_impl_Ty_b12 .skip)
def slices_EqualFunc_impl_Ty_b10 : HCode := (.seq (.reg [⟨some 26, .mov (.t 2), none⟩, ⟨some 27, .load true 4 (.t 8), none⟩, ⟨some 28, .load true 4 (.t 9), none⟩, ⟨some 29, .call (.t 26) [(.t 27), (.t 28)], none⟩, ⟨some 30, .not (.t 29), none⟩]) slices_EqualFunc_impl_Ty_b11)
def slices_EqualFunc_impl_Ty_b9 : HCode := (.seq (.reg [⟨some 22, .mov (.t 1), none⟩, ⟨some 23, .mov (.t 7), none⟩, ⟨some 24, .iaddr 4 (.t 22) (.t 23), none⟩, ⟨some 25, .load true 4 (.t 24), none⟩, ⟨some 9, .alloc (.agg [(.int .i64 0), (.str ⟨⟨[]⟩⟩), (.int .i64 0), .nils]), none⟩, ⟨none, .store 4 (.t 9) (.t 25), none⟩]) slices_EqualFunc_impl_Ty_b10)
def slices_EqualFunc_impl_Ty_b7 : HCode := (.seq (.block 1 (.seq (.reg [⟨some 19, .mov (.t 17), none⟩, ⟨some 20, .iaddr 4 (.t 15) (.t 17), none⟩, ⟨some 21, .load true 4 (.t 20), none⟩, ⟨some 8, .alloc (.agg [(.int .i64 0), (.str ⟨⟨[]⟩⟩), (.int .i64 0), .nils]), none⟩, ⟨some 7, .mov (.t 19), none⟩, ⟨none, .store 4 (.t 8) (.t 21), none⟩]) slices_EqualFunc_impl_Ty_b9)) slices_EqualFunc_impl_Ty_b8)
def slices_EqualFunc_impl_Ty_b6 : HCode := (.seq (.cond (.t 18) .skip (.exit 0)) slices_EqualFunc_impl_Ty_b7)
def slices_EqualFunc_impl_Ty_l5 : HCode := (.seq (.reg [⟨some 18, .bin .lss (.t 17) (.t 16), none⟩]) slices_EqualFunc_impl_Ty_b6)
def slices_EqualFunc_impl_Ty_b4 : HCode := (.block 0 (.loop slices_EqualFunc_impl_Ty_l5))
def slices_EqualFunc_impl_Ty_b2 : HCode := (.seq (.seq (.reg [⟨some 15, .mov (.t 0), none⟩, ⟨some 16, .len (.t 15), none⟩, ⟨some 17, .mov (.c (.int .i64 0)), none⟩]) slices_EqualFunc_impl_Ty_b4) slices_EqualFunc_impl_Ty_b3)
def slices_EqualFunc_impl_Ty_b14 : HCode := (.seq (.reg [⟨some 6, .mov (.c (.bool false)), none⟩]) .ret)
def slices_EqualFunc_impl_Ty_b13 : HCode := (.cond (.t 14) slices_EqualFunc_impl_Ty_b14 .skip)
def slices_EqualFunc_impl_Ty_b1 : HCode := (.seq (.seq (.reg [⟨some 10, .mov (.t 0), none⟩, ⟨some 11, .len (.t 10), none⟩, ⟨some 12, .mov (.t 1), none⟩, ⟨some 13, .len (.t 12), none⟩, ⟨some 14, .bin .neq (.t 11) (.t 13), none⟩]) slices_EqualFunc_impl_Ty_b13) slices_EqualFunc_impl_Ty_b2)
def slices_EqualFunc_impl_Ty_b0 : HCode := (.seq (.reg [⟨some 6, .mov (.c (.bool false)), none⟩]) slices_EqualFunc_impl_Ty_b1)
def slices_EqualFunc_impl_Ty : HFunc := { np := 3, ntmps := 32, results := [(6, none)], body := slices_EqualFunc_impl_Ty_b0 }
def impl_sameCon_b1 : HCode := (.seq (.reg [⟨some 5, .faddr 0 (.t 2), none⟩, ⟨some 6, .load false 1 (.t 5), none⟩, ⟨some 7, .faddr 0 (.t 3), none⟩, ⟨some 8, .load false 1 (.t 7), none⟩, ⟨some 9, .bin .eql (.t 6) (.t 8), none⟩, ⟨some 10, .mov (.t 9), none⟩, ⟨some 11, .faddr 1 (.t 2), some (10, true)⟩, ⟨some 12, .load false 1 (.t 11), some (10, true)⟩, ⟨some 13, .faddr 1 (.t 3), some (10, true)⟩, ⟨some 14, .load false 1 (.t 13), some (10, true)⟩, ⟨some 15, .call (.c (.fn F.slices_EqualFunc_impl_Ty [] [])) [(.t 12), (.t 14), (.c (.fn F.impl_SameTy [] []))], some (10, true)⟩, ⟨some 16, .pick (.t 10) (.t 15) (.c (.bool false)), none⟩, ⟨some 4, .mov (.t 16), none⟩]) .ret)
def impl_sameCon_b0 : HCode := (.seq (.reg [⟨some 2, .box (.t 0), none⟩, ⟨some 3, .box (.t 1), none⟩, ⟨some 4, .mov (.c (.bool false)), none⟩]) impl_sameCon_b1)
def impl_sameCon : HFunc := { np := 2, ntmps := 17, results := [(4, none)], body := impl_sameCon_b0 }
def slices_EqualFunc_impl_Con_b3 : HCode := (.seq (.reg [⟨some 6, .mov (.c (.bool true)), none⟩]) .ret)
def slices_EqualFunc_impl_Con_b8 : HCode := (.reg [⟨some 31, .bin .add (.t 17) (.c (.int .i64 1)), none⟩, ⟨some 17, .mov (.t 31), none⟩])
def slices_EqualFunc_impl_Con_b12 : HCode := (.seq (.reg [⟨some 6, .mov (.c (.bool false)), none⟩]) .ret)
def slices_EqualFunc_impl_Con_b11 : HCode := (.cond (.t 30) slices_EqualFunc_impl_Con_b12 .skip)
def slices_EqualFunc_impl_Con_b10 : HCode := (.seq (.reg [⟨some 26, .mov (.t 2), none⟩, ⟨some 27, .load true 2 (.t 8), none⟩, ⟨some 28, .load true 2 (.t 9), none⟩, ⟨some 29, .call (.t 26) [(.t 27), (.t 28)], none⟩, ⟨some 30, .not (.t 29), none⟩]) slices_EqualFunc_impl_Con_b11)
def slices_EqualFunc_impl_Con_b9 : HCode := (.seq (.reg [⟨some 22, .mov (.t 1), none⟩, ⟨some 23, .mov (.t 7), none⟩, ⟨some 24, .iaddr 2 (.t 22) (.t 23), none⟩, ⟨some 25, .load true 2 (.t 24), none⟩, ⟨some 9, .alloc (.agg [(.str ⟨⟨[]⟩⟩), .nils]), none⟩, ⟨none, .store 2 (.t 9) (.t 25), none⟩]) slices_EqualFunc_impl_Con_b10)
def slices_EqualFunc_impl_Con_b7 : HCode := (.seq (.block 1 (.seq (.reg [⟨some 19, .mov (.t 17), none⟩, ⟨some 20, .iaddr 2 (.t 15) (.t 17), none⟩, ⟨some 21, .load true 2 (.t 20), none⟩, ⟨some 8, .alloc (.agg [(.str ⟨⟨[]⟩⟩), .nils]), none⟩, ⟨some 7, .mov (.t 19), none⟩, ⟨none, .store 2 (.t 8) (.t 21), none⟩]) slices_EqualFunc_impl_Con_b9)) slices_EqualFunc_impl_Con_b8)
def slices_EqualFunc_impl_Con_b6 : HCode := (.seq (.cond (.t 18) .skip (.exit 0)) slices_EqualFunc_impl_Con_b7)
def slices_EqualFunc_impl_Con_l5 : HCode := (.seq (.reg [⟨some 18, .bin .lss (.t 17) (.t 16), none⟩]) slices_EqualFunc_impl_Con_b6)
def slices_EqualFunc_impl_Con_b4 : HCode := (.block 0 (.loop slices_EqualFunc_impl_Con_l5))
def slices_EqualFunc_impl_Con_b2 : HCode := (.seq (.seq (.reg [⟨some 15, .mov (.t 0), none⟩, ⟨some 16, .len (.t 15), none⟩, ⟨some 17, .mov (.c (.int .i64 0)), none⟩]) slices_EqualFunc_impl_Con_b4) slices_EqualFunc_impl_Con_b3)
def slices_EqualFunc_impl_Con_b14 : HCode := (.seq (.reg [⟨some 6, .mov (.c (.bool false)), none⟩]) .ret)
def slices_EqualFunc_impl_Con_b13 : HCode := (.cond (.t 14) slices_EqualFunc_impl_Con_b14 .skip)
def slices_EqualFunc_impl_Con_b1 : HCode := (.seq (.seq (.reg [⟨some 10, .mov (.t 0), none⟩, ⟨some 11, .len (.t 10), none⟩, ⟨some 12, .mov (.t 1), none⟩, ⟨some 13, .len (.t 12), none⟩, ⟨some 14, .bin .neq (.t 11) (.t 13), none⟩]) slices_EqualFunc_impl_Con_b13) slices_EqualFunc_impl_Con_b2)
def slices_EqualFunc_impl_Con_b0 : HCode := (.seq (.reg [⟨some 6, .mov (.c (.bool false)), none⟩]) slices_EqualFunc_impl_Con_b1)
def slices_EqualFunc_impl_Con : HFunc := { np := 3, ntmps := 32, results := [(6, none)], body := slices_EqualFunc_impl_Con_b0 }
def impl_sameData_b1 : HCode := (.seq (.reg [⟨some 5, .faddr 0 (.t 2), none⟩, ⟨some 6, .load false 1 (.t 5), none⟩, ⟨some 7, .faddr 0 (.t 3), none⟩, ⟨some 8, .load false 1 (.t 7), none⟩, ⟨some 9, .bin .eql (.t 6) (.t 8), none⟩, ⟨some 10, .mov (.t 9), none⟩, ⟨some 11, .faddr 1 (.t 2), some (10, true)⟩, ⟨some 12, .load false 1 (.t 11), some (10, true)⟩, ⟨some 13, .faddr 1 (.t 3), some (10, true)⟩, ⟨some 14, .load false 1 (.t 13), some (10, true)⟩, ⟨some 15, .call (.c (.fn F.slices_EqualFunc_impl_Con [] [])) [(.t 12), (.t 14), (.c (.fn F.impl_sameCon [] []))], some (10, true)⟩, ⟨some 16, .pick (.t 10) (.t 15) (.c (.bool false)), none⟩, ⟨some 4, .mov (.t 16), none⟩]) .ret)
def impl_sameData_b0 : HCode := (.seq (.reg [⟨some 2, .box (.t 0), none⟩, ⟨some 3, .box (.t 1), none⟩, ⟨some 4, .mov (.c (.bool false)), none⟩]) impl_sameData_b1)
def impl_sameData : HFunc := { np := 2, ntmps := 17, results := [(4, none)], body := impl_sameData_b0 }
def slices_EqualFunc_impl_Data_b3 : HCode := (.seq (.reg [⟨some 6, .mov (.c (.bool true)), none⟩]) .ret)
def slices_EqualFunc_impl_Data_b8 : HCode := (.reg [⟨some 31, .bin .add (.t 17) (.c (.int .i64 1)), none⟩, ⟨some 17, .mov (.t 31), none⟩])
def slices_EqualFunc_impl_Data_b12 : HCode := (.seq (.reg [⟨some 6, .mov (.c (.bool false)), none⟩]) .ret)
def slices_EqualFunc_impl_Data_b11 : HCode := (.cond (.t 30) slices_EqualFunc_impl_Data_b12 .skip)
def slices_EqualFunc_impl_Data_b10 : HCode := (.seq (.reg [⟨some 26, .mov (.t 2), none⟩, ⟨some 27, .load true 2 (.t 8), none⟩, ⟨some 28, .load true 2 (.t 9), none⟩, ⟨some 29, .call (.t 26) [(.t 27), (.t 28)], none⟩, ⟨some 30, .not (.t 29), none⟩]) slices_EqualFunc_impl_Data_b11)
def slices_EqualFunc_impl_Data_b9 : HCode := (.seq (.reg [⟨some 22, .mov (.t 1), none⟩, ⟨some 23, .mov (.t 7), none⟩, ⟨some 24, .iaddr 2 (.t 22) (.t 23), none⟩, ⟨some 25, .load true 2 (.t 24), none⟩, ⟨some 9, .alloc (.agg [(.str ⟨⟨[]⟩⟩), .nils]), none⟩, ⟨none, .store 2 (.t 9) (.t 25), none⟩]) slices_EqualFunc_impl_Data_b10)
def slices_EqualFunc_impl_Data_b7 : HCode := (.seq (.block 1 (.seq (.reg [⟨some 19, .mov (.t 17), none⟩, ⟨some 20, .iaddr 2 (.t 15) (.t 17), none⟩, ⟨some 21, .load true 2 (.t 20), none⟩, ⟨some 8, .alloc (.agg [(.str ⟨⟨[]⟩⟩), .nils]), none⟩, ⟨some 7, .mov (.t 19), none⟩, ⟨none, .store 2 (.t 8) (.t 21), none⟩]) slices_EqualFunc_impl_Data_b9)) slices_EqualFunc_impl_Data_b8)
def slices_EqualFunc_impl_Data_b6 : HCode := (.seq (.cond (.t 18) .skip (.exit 0)) slices_EqualFunc_impl_Data_b7)
def slices_EqualFunc_impl_Data_l5 : HCode := (.seq (.reg [⟨some 18, .bin .lss (.t 17) (.t 16), none⟩]) slices_EqualFunc_impl_Data_b6)
def slices_EqualFunc_impl_Data_b4 : HCode := (.block 0 (.loop slices_EqualFunc_impl_Data_l5))
def slices_EqualFunc_impl_Data_b2 : HCode := (.seq (.seq (.reg [⟨some 15, .mov (.t 0), none⟩, ⟨some 16, .len (.t 15), none⟩, ⟨some 17, .mov (.c (.int .i64 0)), none⟩]) slices_EqualFunc_impl_Data_b4) slices_EqualFunc_impl_Data_b3)
def slices_EqualFunc_impl_Data_b14 : HCode := (.seq (.reg [⟨some 6, .mov (.c (.bool false)), none⟩]) .ret)
def slices_EqualFunc_impl_Data_b13 : HCode := (.cond (.t 14) slices_EqualFunc_impl_Data_b14 .skip)
def slices_EqualFunc_impl_Data_b1 : HCode := (.seq (.seq (.reg [⟨some 10, .mov (.t 0), none⟩, ⟨some 11, .len (.t 10), none⟩, ⟨some 12, .mov (.t 1), none⟩, ⟨some 13, .len (.t 12), none⟩, ⟨some 14, .bin .neq (.t 11) (.t 13), none⟩]) slices_EqualFunc_impl_Data_b13) slices_EqualFunc_impl_Data_b2)
def slices_EqualFunc_impl_Data_b0 : HCode := (.seq (.reg [⟨some 6, .mov (.c (.bool false)), none⟩]) slices_EqualFunc_impl_Data_b1)
def slices_EqualFunc_impl_Data : HFunc := { np := 3, ntmps := 32, results := [(6, none)], body := slices_EqualFunc_impl_Data_b0 }
def impl_SameProg_b1 : HCode := (.seq (.reg [⟨some 5, .faddr 0 (.t 2), none⟩, ⟨some 6, .load false 1 (.t 5), none⟩, ⟨some 7, .faddr 0 (.t 3), none⟩, ⟨some 8, .load false 1 (.t 7), none⟩, ⟨some 9, .call (.c (.fn F.slices_EqualFunc_impl_Data [] [])) [(.t 6), (.t 8), (.c (.fn F.impl_sameData [] []))], none⟩, ⟨some 10, .mov (.t 9), none⟩, ⟨some 11, .faddr 1 (.t 2), some (10, true)⟩, ⟨some 12, .load false 1 (.t 11), some (10, true)⟩, ⟨some 13, .faddr 1 (.t 3), some (10, true)⟩, ⟨some 14, .load false 1 (.t 13), some (10, true)⟩, ⟨some 15, .call (.c (.fn F.slices_EqualFunc_impl_Dec [] [])) [(.t 12), (.t 14), (.c (.fn F.impl_sameDec [] []))], some (10, true)⟩, ⟨some 16, .pick (.t 10) (.t 15) (.c (.bool false)), none⟩, ⟨some 4, .mov (.t 16), none⟩]) .ret)
def impl_SameProg_b0 : HCode := (.seq (.reg [⟨some 2, .box (.t 0), none⟩, ⟨some 3, .box (.t 1), none⟩, ⟨some 4, .mov (.c (.bool false)), none⟩]) impl_SameProg_b1)
def impl_SameProg : HFunc := { np := 2, ntmps := 17, results := [(4, none)], body := impl_SameProg_b0 }
def laws_szTy_b5 : HCode := (.seq (.reg [⟨some 18, .mov (.t 1), none⟩, ⟨some 4, .mov (.t 18), none⟩]) .ret)
def laws_szTy_b7 : HCode := (.seq (.reg [⟨some 4, .mov (.c (.int .i64 (-1))), none⟩]) .ret)
def laws_szTy_b6 : HCode := (.cond (.t 17) laws_szTy_b7 .skip)
def laws_szTy_b4 : HCode := (.seq (.seq (.reg [⟨some 16, .mov (.t 1), none⟩, ⟨some 17, .bin .lss (.t 16) (.c (.int .i64 0)), none⟩]) laws_szTy_b6) laws_szTy_b5)
def laws_szTy_b3 : HCode := (.seq (.reg [⟨some 12, .faddr 3 (.t 2), none⟩, ⟨some 13, .load false 1 (.t 12), none⟩, ⟨some 14, .mov (.t 1), none⟩, ⟨some 15, .call (.c (.fn F.laws_szTyS [] [])) [(.t 13), (.t 14)], none⟩, ⟨some 1, .mov (.t 15), none⟩]) laws_szTy_b4)
def laws_szTy_b9 : HCode := (.seq (.reg [⟨some 4, .mov (.c (.int .i64 (-1))), none⟩]) .ret)
def laws_szTy_b8 : HCode := (.cond (.t 11) laws_szTy_b9 .skip)
def laws_szTy_b2 : HCode := (.seq (.seq (.reg [⟨some 10, .mov (.t 1), none⟩, ⟨some 11, .bin .lss (.t 10) (.c (.int .i64 0)), none⟩]) laws_szTy_b8) laws_szTy_b3)
def laws_szTy_b1 : HCode := (.seq (.reg [⟨some 5, .mov (.t 1), none⟩, ⟨some 6, .faddr 1 (.t 2), none⟩, ⟨some 7, .load false 1 (.t 6), none⟩, ⟨some 8, .slen (.t 7), none⟩, ⟨some 9, .bin .sub (.t 5) (.t 8), none⟩, ⟨some 1, .mov (.t 9), none⟩]) laws_szTy_b2)
def laws_szTy_b0 : HCode := (.seq (.reg [⟨some 2, .box (.t 0), none⟩, ⟨some 4, .mov (.c (.int .i64 0)), none⟩]) laws_szTy_b1)
def laws_szTy : HFunc := { np := 2, ntmps := 19, results := [(4, none)], body := laws_szTy_b0 }
def laws_szTyS_b4 : HCode := (.seq (.reg [⟨some 26, .mov (.t 1), none⟩, ⟨some 4, .mov (.t 26), none⟩]) .ret)
def laws_szTyS_b8 : HCode := (.reg [⟨some 16, .mov (.t 5), none⟩, ⟨some 17, .bin .add (.t 16) (.c (.int .i64 1)), none⟩, ⟨some 5, .mov (.t 17), none⟩])
def laws_szTyS_b11 : HCode := (.seq (.reg [⟨some 4, .mov (.c (.int .i64 (-1))), none⟩]) .ret)
def laws_szTyS_b10 : HCode := (.cond (.t 25) laws_szTyS_b11 .skip)
def laws_szTyS_b9 : HCode := (.seq (.reg [⟨some 24, .mov (.t 1), none⟩, ⟨some 25, .bin .lss (.t 24) (.c (.int .i64 0)), none⟩]) laws_szTyS_b10)
def laws_szTyS_b7 : HCode := (.seq (.block 1 (.seq (.reg [⟨some 18, .mov (.t 0), none⟩, ⟨some 19, .mov (.t 5), none⟩, ⟨some 20, .iaddr 4 (.t 18) (.t 19), none⟩, ⟨some 21, .load true 4 (.t 20), none⟩, ⟨some 22, .mov (.t 1), none⟩, ⟨some 23, .call (.c (.fn F.laws_szTy [] [])) [(.t 21), (.t 22)], none⟩, ⟨some 1, .mov (.t 23), none⟩]) laws_szTyS_b9)) laws_szTyS_b8)
def laws_szTyS_b12 : HCode := (.cond (.t 15) .skip (.exit 0))
def laws_szTyS_l6 : HCode := (.seq (.seq (.reg [⟨some 12, .mov (.t 5), none⟩, ⟨some 13, .mov (.t 0), none⟩, ⟨some 14, .len (.t 13), none⟩, ⟨some 15, .bin .lss (.t 12) (.t 14), none⟩]) laws_szTyS_b12) laws_szTyS_b7)
def laws_szTyS_b5 : HCode := (.block 0 (.loop laws_szTyS_l6))
def laws_szTyS_b3 : HCode := (.seq (.seq (.reg [⟨some 5, .mov (.c (.int .i64 0)), none⟩]) laws_szTyS_b5) laws_szTyS_b4)
def laws_szTyS_b14 : HCode := (.seq (.reg [⟨some 4, .mov (.c (.int .i64 (-1))), none⟩]) .ret)
def laws_szTyS_b13 : HCode := (.cond (.t 11) laws_szTyS_b14 .skip)
def laws_szTyS_b2 : HCode := (.seq (.seq (.reg [⟨some 10, .mov (.t 1), none⟩, ⟨some 11, .bin .lss (.t 10) (.c (.int .i64 0)), none⟩]) laws_szTyS_b13) laws_szTyS_b3)
def laws_szTyS_b1 : HCode := (.seq (.reg [⟨some 6, .mov (.t 1), none⟩, ⟨some 7, .mov (.t 0), none⟩, ⟨some 8, .len (.t 7), none⟩, ⟨some 9, .bin .sub (.t 6) (.t 8), none⟩, ⟨some 1, .mov (.t 9), none⟩]) laws_szTyS_b2)
def laws_szTyS_b0 : HCode := (.seq (.reg [⟨some 4, .mov (.c (.int .i64 0)), none⟩]) laws_szTyS_b1)
def laws_szTyS : HFunc := { np := 2, ntmps := 27, results := [(4, none)], body := laws_szTyS_b0 }
def laws_szCon_b5 : HCode := (.seq (.reg [⟨some 18, .mov (.t 1), none⟩, ⟨some 4, .mov (.t 18), none⟩]) .ret)
def laws_szCon_b7 : HCode := (.seq (.reg [⟨some 4, .mov (.c (.int .i64 (-1))), none⟩]) .ret)
def laws_szCon_b6 : HCode := (.cond (.t 17) laws_szCon_b7 .skip)
def laws_szCon_b4 : HCode := (.seq (.seq (.reg [⟨some 16, .mov (.t 1), none⟩, ⟨some 17, .bin .lss (.t 16) (.c (.int .i64 0)), none⟩]) laws_szCon_b6) laws_szCon_b5)
def laws_szCon_b3 : HCode := (.seq (.reg [⟨some 12, .faddr 1 (.t 2), none⟩, ⟨some 13, .load false 1 (.t 12), none⟩, ⟨some 14, .mov (.t 1), none⟩, ⟨some 15, .call (.c (.fn F.laws_szTyS [] [])) [(.t 13), (.t 14)], none⟩, ⟨some 1, .mov (.t 15), none⟩]) laws_szCon_b4)
def laws_szCon_b9 : HCode := (.seq (.reg [⟨some 4, .mov (.c (.int .i64 (-1))), none⟩]) .ret)
def laws_szCon_b8 : HCode := (.cond (.t 11) laws_szCon_b9 .skip)
def laws_szCon_b2 : HCode := (.seq (.seq (.reg [⟨some 10, .mov (.t 1), none⟩, ⟨some 11, .bin .lss (.t 10) (.c (.int .i64 0)), none⟩]) laws_szCon_b8) laws_szCon_b3)
def laws_szCon_b1 : HCode := (.seq (.reg [⟨some 5, .mov (.t 1), none⟩, ⟨some 6, .faddr 0 (.t 2), none⟩, ⟨some 7, .load false 1 (.t 6), none⟩, ⟨some 8, .slen (.t 7), none⟩, ⟨some 9, .bin .sub (.t 5) (.t 8), none⟩, ⟨some 1, .mov (.t 9), none⟩]) laws_szCon_b2)
def laws_szCon_b0 : HCode := (.seq (.reg [⟨some 2, .box (.t 0), none⟩, ⟨some 4, .mov (.c (.int .i64 0)), none⟩]) laws_szCon_b1)
def laws_szCon : HFunc := { np := 2, ntmps := 19, results := [(4, none)], body := laws_szCon_b0 }
def laws_szConS_b4 : HCode := (.seq (.reg [⟨some 26, .mov (.t 1), none⟩, ⟨some 4, .mov (.t 26), none⟩]) .ret)
def laws_szConS_b8 : HCode := (.reg [⟨some 16, .mov (.t 5), none⟩, ⟨some 17, .bin .add (.t 16) (.c (.int .i64 1)), none⟩, ⟨some 5, .mov (.t 17), none⟩])
def laws_szConS_b11 : HCode := (.seq (.reg [⟨some 4, .mov (.c (.int .i64 (-1))), none⟩]) .ret)
def laws_szConS_b10 : HCode := (.cond (.t 25) laws_szConS_b11 .skip)
def laws_szConS_b9 : HCode := (.seq (.reg [⟨some 24, .mov (.t 1), none⟩, ⟨some 25, .bin .lss (.t 24) (.c (.int .i64 0)), none⟩]) laws_szConS_b10)
def laws_szConS_b7 : HCode := (.seq (.block 1 (.seq (.reg [⟨some 18, .mov (.t 0), none⟩, ⟨some 19, .mov (.t 5), none⟩, ⟨some 20, .iaddr 2 (.t 18) (.t 19), none⟩, ⟨some 21, .load true 2 (.t 20), none⟩, ⟨some 22, .mov (.t 1), none⟩, ⟨some 23, .call (.c (.fn F.laws_szCon [] [])) [(.t 21), (.t 22)], none⟩, ⟨some 1, .mov (.t 23), none⟩]) laws_szConS_b9)) laws_szConS_b8)
def laws_szConS_b12 : HCode := (.cond (.t 15) .skip (.exit 0))
def laws_szConS_l6 : HCode := (.seq (.seq (.reg [⟨some 12, .mov (.t 5), none⟩, ⟨some 13, .mov (.t 0), none⟩, ⟨some 14, .len (.t 13), none⟩, ⟨some 15, .bin .lss (.t 12) (.t 14), none⟩]) laws_szConS_b12) laws_szConS_b7)
def laws_szConS_b5 : HCode := (.block 0 (.loop laws_szConS_l6))
def laws_szConS_b3 : HCode := (.seq (.seq (.reg [⟨some 5, .mov (.c (.int .i64 0)), none⟩]) laws_szConS_b5) laws_szConS_b4)
def laws_szConS_b14 : HCode := (.seq (.reg [⟨some 4, .mov (.c (.int .i64 (-1))), none⟩]) .ret)
def laws_szConS_b13 : HCode := (.cond (.t 11) laws_szConS_b14 .skip)
def laws_szConS_b2 : HCode := (.seq (.seq (.reg [⟨some 10, .mov (.t 1), none⟩, ⟨some 11, .bin .lss (.t 10) (.c (.int .i64 0)), none⟩]) laws_szConS_b13) laws_szConS_b3)
def laws_szConS_b1 : HCode := (.seq (.reg [⟨some 6, .mov (.t 1), none⟩, ⟨some 7, .mov (.t 0), none⟩, ⟨some 8, .len (.t 7), none⟩, ⟨some 9, .bin .sub (.t 6) (.t 8), none⟩, ⟨some 1, .mov (.t 9), none⟩]) laws_szConS_b2)
def laws_szConS_b0 : HCode := (.seq (.reg [⟨some 4, .mov (.c (.int .i64 0)), none⟩]) laws_szConS_b1)
def laws_szConS : HFunc := { np := 2, ntmps := 27, results := [(4, none)], body := laws_szConS_b0 }
def laws_szData_b5 : HCode := (.seq (.reg [⟨some 18, .mov (.t 1), none⟩, ⟨some 4, .mov (.t 18), none⟩]) .ret)
def laws_szData_b7 : HCode := (.seq (.reg [⟨some 4, .mov (.c (.int .i64 (-1))), none⟩]) .ret)
def laws_szData_b6 : HCode := (.cond (.t 17) laws_szData_b7 .skip)
def laws_szData_b4 : HCode := (.seq (.seq (.reg [⟨some 16, .mov (.t 1), none⟩, ⟨some 17, .bin .lss (.t 16) (.c (.int .i64 0)), none⟩]) laws_szData_b6) laws_szData_b5)
def laws_szData_b3 : HCode := (.seq (.reg [⟨some 12, .faddr 1 (.t 2), none⟩, ⟨some 13, .load false 1 (.t 12), none⟩, ⟨some 14, .mov (.t 1), none⟩, ⟨some 15, .call (.c (.fn F.laws_szConS [] [])) [(.t 13), (.t 14)], none⟩, ⟨some 1, .mov (.t 15), none⟩]) laws_szData_b4)
def laws_szData_b9 : HCode := (.seq (.reg [⟨some 4, .mov (.c (.int .i64 (-1))), none⟩]) .ret)
def laws_szData_b8 : HCode := (.cond (.t 11) laws_szData_b9 .skip)
def laws_szData_b2 : HCode := (.seq (.seq (.reg [⟨some 10, .mov (.t 1), none⟩, ⟨some 11, .bin .lss (.t 10) (.c (.int .i64 0)), none⟩]) laws_szData_b8) laws_szData_b3)
def laws_szData_b1 : HCode := (.seq (.reg [⟨some 5, .mov (.t 1), none⟩, ⟨some 6, .faddr 0 (.t 2), none⟩, ⟨some 7, .load false 1 (.t 6), none⟩, ⟨some 8, .slen (.t 7), none⟩, ⟨some 9, .bin .sub (.t 5) (.t 8), none⟩, ⟨some 1, .mov (.t 9), none⟩]) laws_szData_b2)
def laws_szData_b0 : HCode := (.seq (.reg [⟨some 2, .box (.t 0), none⟩, ⟨some 4, .mov (.c (.int .i64 0)), none⟩]) laws_szData_b1)
def laws_szData : HFunc := { np := 2, ntmps := 19, results := [(4, none)], body := laws_szData_b0 }
def laws_szDataS_b4 : HCode := (.seq (.reg [⟨some 26, .mov (.t 1), none⟩, ⟨some 4, .mov (.t 26), none⟩]) .ret)
def laws_szDataS_b8 : HCode := (.reg [⟨some 16, .mov (.t 5), none⟩, ⟨some 17, .bin .add (.t 16) (.c (.int .i64 1)), none⟩, ⟨some 5, .mov (.t 17), none⟩])
def laws_szDataS_b11 : HCode := (.seq (.reg [⟨some 4, .mov (.c (.int .i64 (-1))), none⟩]) .ret)
def laws_szDataS_b10 : HCode := (.cond (.t 25) laws_szDataS_b11 .skip)
def laws_szDataS_b9 : HCode := (.seq (.reg [⟨some 24, .mov (.t 1), none⟩, ⟨some 25, .bin .lss (.t 24) (.c (.int .i64 0)), none⟩]) laws_szDataS_b10)
def laws_szDataS_b7 : HCode := (.seq (.block 1 (.seq (.reg [⟨some 18, .mov (.t 0), none⟩, ⟨some 19, .mov (.t 5), none⟩, ⟨some 20, .iaddr 2 (.t 18) (.t 19), none⟩, ⟨some 21, .load true 2 (.t 20), none⟩, ⟨some 22, .mov (.t 1), none⟩, ⟨some 23, .call (.c (.fn F.laws_szData [] [])) [(.t 21), (.t 22)], none⟩, ⟨some 1, .mov (.t 23), none⟩]) laws_szDataS_b9)) laws_szDataS_b8)
def laws_szDataS_b12 : HCode := (.cond (.t 15) .skip (.exit 0))
def laws_szDataS_l6 : HCode := (.seq (.seq (.reg [⟨some 12, .mov (.t 5), none⟩, ⟨some 13, .mov (.t 0), none⟩, ⟨some 14, .len (.t 13), none⟩, ⟨some 15, .bin .lss (.t 12) (.t 14), none⟩]) laws_szDataS_b12) laws_szDataS_b7)
def laws_szDataS_b5 : HCode := (.block 0 (.loop laws_szDataS_l6))
def laws_szDataS_b3 : HCode := (.seq (.seq (.reg [⟨some 5, .mov (.c (.int .i64 0)), none⟩]) laws_szDataS_b5) laws_szDataS_b4)
def laws_szDataS_b14 : HCode := (.seq (.reg [⟨some 4, .mov (.c (.int .i64 (-1))), none⟩]) .ret)
def laws_szDataS_b13 : HCode := (.cond (.t 11) laws_szDataS_b14 .skip)
def laws_szDataS_b2 : HCode := (.seq (.seq (.reg [⟨some 10, .mov (.t 1), none⟩, ⟨some 11, .bin .lss (.t 10) (.c (.int .i64 0)), none⟩]) laws_szDataS_b13) laws_szDataS_b3)
def laws_szDataS_b1 : HCode := (.seq (.reg [⟨some 6, .mov (.t 1), none⟩, ⟨some 7, .mov (.t 0), none⟩, ⟨some 8, .len (.t 7), none⟩, ⟨some 9, .bin .sub (.t 6) (.t 8), none⟩, ⟨some 1, .mov (.t 9), none⟩]) laws_szDataS_b2)
def laws_szDataS_b0 : HCode := (.seq (.reg [⟨some 4, .mov (.c (.int .i64 0)), none⟩]) laws_szDataS_b1)
def laws_szDataS : HFunc := { np := 2, ntmps := 27, results := [(4, none)], body := laws_szDataS_b0 }
def laws_szStringS_b4 : HCode := (.seq (.reg [⟨some 27, .mov (.t 1), none⟩, ⟨some 4, .mov (.t 27), none⟩]) .ret)
def laws_szStringS_b8 : HCode := (.reg [⟨some 16, .mov (.t 5), none⟩, ⟨some 17, .bin .add (.t 16) (.c (.int .i64 1)), none⟩, ⟨some 5, .mov (.t 17), none⟩])
def laws_szStringS_b11 : HCode := (.seq (.reg [⟨some 4, .mov (.c (.int .i64 (-1))), none⟩]) .ret)
def laws_szStringS_b10 : HCode := (.cond (.t 26) laws_szStringS_b11 .skip)
def laws_szStringS_b9 : HCode := (.seq (.reg [⟨some 25, .mov (.t 1), none⟩, ⟨some 26, .bin .lss (.t 25) (.c (.int .i64 0)), none⟩]) laws_szStringS_b10)
def laws_szStringS_b7 : HCode := (.seq (.block 1 (.seq (.reg [⟨some 18, .mov (.t 1), none⟩, ⟨some 19, .mov (.t 0), none⟩, ⟨some 20, .mov (.t 5), none⟩, ⟨some 21, .iaddr 1 (.t 19) (.t 20), none⟩, ⟨some 22, .load false 1 (.t 21), none⟩, ⟨some 23, .slen (.t 22), none⟩, ⟨some 24, .bin .sub (.t 18) (.t 23), none⟩, ⟨some 1, .mov (.t 24), none⟩]) laws_szStringS_b9)) laws_szStringS_b8)
def laws_szStringS_b12 : HCode := (.cond (.t 15) .skip (.exit 0))
def laws_szStringS_l6 : HCode := (.seq (.seq (.reg [⟨some 12, .mov (.t 5), none⟩, ⟨some 13, .mov (.t 0), none⟩, ⟨some 14, .len (.t 13), none⟩, ⟨some 15, .bin .lss (.t 12) (.t 14), none⟩]) laws_szStringS_b12) laws_szStringS_b7)
def laws_szStringS_b5 : HCode := (.block 0 (.loop laws_szStringS_l6))
def laws_szStringS_b3 : HCode := (.seq (.seq (.reg [⟨some 5, .mov (.c (.int .i64 0)), none⟩]) laws_szStringS_b5) laws_szStringS_b4)
def laws_szStringS_b14 : HCode := (.seq (.reg [⟨some 4, .mov (.c (.int .i64 (-1))), none⟩]) .ret)
def laws_szStringS_b13 : HCode := (.cond (.t 11) laws_szStringS_b14 .skip)
def laws_szStringS_b2 : HCode := (.seq (.seq (.reg [⟨some 10, .mov (.t 1), none⟩, ⟨some 11, .bin .lss (.t 10) (.c (.int .i64 0)), none⟩]) laws_szStringS_b13) laws_szStringS_b3)
def laws_szStringS_b1 : HCode := (.seq (.reg [⟨some 6, .mov (.t 1), none⟩, ⟨some 7, .mov (.t 0), none⟩, ⟨some 8, .len (.t 7), none⟩, ⟨some 9, .bin .sub (.t 6) (.t 8), none⟩, ⟨some 1, .mov (.t 9), none⟩]) laws_szStringS_b2)
def laws_szStringS_b0 : HCode := (.seq (.reg [⟨some 4, .mov (.c (.int .i64 0)), none⟩]) laws_szStringS_b1)
def laws_szStringS : HFunc := { np := 2, ntmps := 28, results := [(4, none)], body := laws_szStringS_b0 }
def laws_szAlt_b7 : HCode := (.seq (.reg [⟨some 24, .mov (.t 1), none⟩, ⟨some 4, .mov (.t 24), none⟩]) .ret)
def laws_szAlt_b9 : HCode := (.seq (.reg [⟨some 4, .mov (.c (.int .i64 (-1))), none⟩]) .ret)
def laws_szAlt_b8 : HCode := (.cond (.t 23) laws_szAlt_b9 .skip)
def laws_szAlt_b6 : HCode := (.seq (.seq (.reg [⟨some 22, .mov (.t 1), none⟩, ⟨some 23, .bin .lss (.t 22) (.c (.int .i64 0)), none⟩]) laws_szAlt_b8) laws_szAlt_b7)
def laws_szAlt_b5 : HCode := (.seq (.reg [⟨some 18, .faddr 2 (.t 2), none⟩, ⟨some 19, .load true 6 (.t 18), none⟩, ⟨some 20, .mov (.t 1), none⟩, ⟨some 21, .call (.c (.fn F.laws_szExp [] [])) [(.t 19), (.t 20)], none⟩, ⟨some 1, .mov (.t 21), none⟩]) laws_szAlt_b6)
def laws_szAlt_b11 : HCode := (.seq (.reg [⟨some 4, .mov (.c (.int .i64 (-1))), none⟩]) .ret)
def laws_szAlt_b10 : HCode := (.cond (.t 17) laws_szAlt_b11 .skip)
def laws_szAlt_b4 : HCode := (.seq (.seq (.reg [⟨some 16, .mov (.t 1), none⟩, ⟨some 17, .bin .lss (.t 16) (.c (.int .i64 0)), none⟩]) laws_szAlt_b10) laws_szAlt_b5)
def laws_szAlt_b3 : HCode := (.seq (.reg [⟨some 12, .faddr 1 (.t 2), none⟩, ⟨some 13, .load false 1 (.t 12), none⟩, ⟨some 14, .mov (.t 1), none⟩, ⟨some 15, .call (.c (.fn F.laws_szStringS [] [])) [(.t 13), (.t 14)], none⟩, ⟨some 1, .mov (.t 15), none⟩]) laws_szAlt_b4)
def laws_szAlt_b13 : HCode := (.seq (.reg [⟨some 4, .mov (.c (.int .i64 (-1))), none⟩]) .ret)
def laws_szAlt_b12 : HCode := (.cond (.t 11) laws_szAlt_b13 .skip)
def laws_szAlt_b2 : HCode := (.seq (.seq (.reg [⟨some 10, .mov (.t 1), none⟩, ⟨some 11, .bin .lss (.t 10) (.c (.int .i64 0)), none⟩]) laws_szAlt_b12) laws_szAlt_b3)
def laws_szAlt_b1 : HCode := (.seq (.reg [⟨some 5, .mov (.t 1), none⟩, ⟨some 6, .faddr 0 (.t 2), none⟩, ⟨some 7, .load false 1 (.t 6), none⟩, ⟨some 8, .slen (.t 7), none⟩, ⟨some 9, .bin .sub (.t 5) (.t 8), none⟩, ⟨some 1, .mov (.t 9), none⟩]) laws_szAlt_b2)
def laws_szAlt_b0 : HCode := (.seq (.reg [⟨some 2, .box (.t 0), none⟩, ⟨some 4, .mov (.c (.int .i64 0)), none⟩]) laws_szAlt_b1)
def laws_szAlt : HFunc := { np := 2, ntmps := 25, results := [(4, none)], body := laws_szAlt_b0 }
def laws_szAltS_b4 : HCode := (.seq (.reg [⟨some 26, .mov (.t 1), none⟩, ⟨some 4, .mov (.t 26), none⟩]) .ret)
def laws_szAltS_b8 : HCode := (.reg [⟨some 16, .mov (.t 5), none⟩, ⟨some 17, .bin .add (.t 16) (.c (.int .i64 1)), none⟩, ⟨some 5, .mov (.t 17), none⟩])
def laws_szAltS_b11 : HCode := (.seq (.reg [⟨some 4, .mov (.c (.int .i64 (-1))), none⟩]) .ret)
def laws_szAltS_b10 : HCode := (.cond (.t 25) laws_szAltS_b11 .skip)
def laws_szAltS_b9 : HCode := (.seq (.reg [⟨some 24, .mov (.t 1), none⟩, ⟨some 25, .bin .lss (.t 24) (.c (.int .i64 0)), none⟩]) laws_szAltS_b10)
def laws_szAltS_b7 : HCode := (.seq (.block 1 (.seq (.reg [⟨some 18, .mov (.t 0), none⟩, ⟨some 19, .mov (.t 5), none⟩, ⟨some 20, .iaddr 8 (.t 18) (.t 19), none⟩, ⟨some 21, .load true 8 (.t 20), none⟩, ⟨some 22, .mov (.t 1), none⟩, ⟨some 23, .call (.c (.fn F.laws_szAlt [] [])) [(.t 21), (.t 22)], none⟩, ⟨some 1, .mov (.t 23), none⟩]) laws_szAltS_b9)) laws_szAltS_b8)
def laws_szAltS_b12 : HCode := (.cond (.t 15) .skip (.exit 0))
def laws_szAltS_l6 : HCode := (.seq (.seq (.reg [⟨some 12, .mov (.t 5), none⟩, ⟨some 13, .mov (.t 0), none⟩, ⟨some 14, .len (.t 13), none⟩, ⟨some 15, .bin .lss (.t 12) (.t 14), none⟩]) laws_szAltS_b12) laws_szAltS_b7)
def laws_szAltS_b5 : HCode := (.block 0 (.loop laws_szAltS_l6))
def laws_szAltS_b3 : HCode := (.seq (.seq (.reg [⟨some 5, .mov (.c (.int .i64 0)), none⟩]) laws_szAltS_b5) laws_szAltS_b4)
def laws_szAltS_b14 : HCode := (.seq (.reg [⟨some 4, .mov (.c (.int .i64 (-1))), none⟩]) .ret)
def laws_szAltS_b13 : HCode := (.cond (.t 11) laws_szAltS_b14 .skip)
def laws_szAltS_b2 : HCode := (.seq (.seq (.reg [⟨some 10, .mov (.t 1), none⟩, ⟨some 11, .bin .lss (.t 10) (.c (.int .i64 0)), none⟩]) laws_szAltS_b13) laws_szAltS_b3)
def laws_szAltS_b1 : HCode := (.seq (.reg [⟨some 6, .mov (.t 1), none⟩, ⟨some 7, .mov (.t 0), none⟩, ⟨some 8, .len (.t 7), none⟩, ⟨some 9, .bin .sub (.t 6) (.t 8), none⟩, ⟨some 1, .mov (.t 9), none⟩]) laws_szAltS_b2)
def laws_szAltS_b0 : HCode := (.seq (.reg [⟨some 4, .mov (.c (.int .i64 0)), none⟩]) laws_szAltS_b1)
def laws_szAltS : HFunc := { np := 2, ntmps := 27, results := [(4, none)], body := laws_szAltS_b0 }
def laws_szDec_b9 : HCode := (.seq (.reg [⟨some 30, .mov (.t 1), none⟩, ⟨some 4, .mov (.t 30), none⟩]) .ret)
def laws_szDec_b11 : HCode := (.seq (.reg [⟨some 4, .mov (.c (.int .i64 (-1))), none⟩]) .ret)
def laws_szDec_b10 : HCode := (.cond (.t 29) laws_szDec_b11 .skip)
def laws_szDec_b8 : HCode := (.seq (.seq (.reg [⟨some 28, .mov (.t 1), none⟩, ⟨some 29, .bin .lss (.t 28) (.c (.int .i64 0)), none⟩]) laws_szDec_b10) laws_szDec_b9)
def laws_szDec_b7 : HCode := (.seq (.reg [⟨some 24, .faddr 8 (.t 2), none⟩, ⟨some 25, .load false 1 (.t 24), none⟩, ⟨some 26, .mov (.t 1), none⟩, ⟨some 27, .call (.c (.fn F.laws_szDecS [] [])) [(.t 25), (.t 26)], none⟩, ⟨some 1, .mov (.t 27), none⟩]) laws_szDec_b8)
def laws_szDec_b13 : HCode := (.seq (.reg [⟨some 4, .mov (.c (.int .i64 (-1))), none⟩]) .ret)
def laws_szDec_b12 : HCode := (.cond (.t 23) laws_szDec_b13 .skip)
def laws_szDec_b6 : HCode := (.seq (.seq (.reg [⟨some 22, .mov (.t 1), none⟩, ⟨some 23, .bin .lss (.t 22) (.c (.int .i64 0)), none⟩]) laws_szDec_b12) laws_szDec_b7)
def laws_szDec_b5 : HCode := (.seq (.reg [⟨some 18, .faddr 2 (.t 2), none⟩, ⟨some 19, .load true 6 (.t 18), none⟩, ⟨some 20, .mov (.t 1), none⟩, ⟨some 21, .call (.c (.fn F.laws_szExp [] [])) [(.t 19), (.t 20)], none⟩, ⟨some 1, .mov (.t 21), none⟩]) laws_szDec_b6)
def laws_szDec_b15 : HCode := (.seq (.reg [⟨some 4, .mov (.c (.int .i64 (-1))), none⟩]) .ret)
def laws_szDec_b14 : HCode := (.cond (.t 17) laws_szDec_b15 .skip)
def laws_szDec_b4 : HCode := (.seq (.seq (.reg [⟨some 16, .mov (.t 1), none⟩, ⟨some 17, .bin .lss (.t 16) (.c (.int .i64 0)), none⟩]) laws_szDec_b14) laws_szDec_b5)
def laws_szDec_b3 : HCode := (.seq (.reg [⟨some 12, .faddr 1 (.t 2), none⟩, ⟨some 13, .load false 1 (.t 12), none⟩, ⟨some 14, .mov (.t 1), none⟩, ⟨some 15, .call (.c (.fn F.laws_szStringS [] [])) [(.t 13), (.t 14)], none⟩, ⟨some 1, .mov (.t 15), none⟩]) laws_szDec_b4)
def laws_szDec_b17 : HCode := (.seq (.reg [⟨some 4, .mov (.c (.int .i64 (-1))), none⟩]) .ret)
def laws_szDec_b16 : HCode := (.cond (.t 11) laws_szDec_b17 .skip)
def laws_szDec_b2 : HCode := (.seq (.seq (.reg [⟨some 10, .mov (.t 1), none⟩, ⟨some 11, .bin .lss (.t 10) (.c (.int .i64 0)), none⟩]) laws_szDec_b16) laws_szDec_b3)
def laws_szDec_b1 : HCode := (.seq (.reg [⟨some 5, .mov (.t 1), none⟩, ⟨some 6, .faddr 0 (.t 2), none⟩, ⟨some 7, .load false 1 (.t 6), none⟩, ⟨some 8, .slen (.t 7), none⟩, ⟨some 9, .bin .sub (.t 5) (.t 8), none⟩, ⟨some 1, .mov (.t 9), none⟩]) laws_szDec_b2)
def laws_szDec_b0 : HCode := (.seq (.reg [⟨some 2, .box (.t 0), none⟩, ⟨some 4, .mov (.c (.int .i64 0)), none⟩]) laws_szDec_b1)
def laws_szDec : HFunc := { np := 2, ntmps := 31, results := [(4, none)], body := laws_szDec_b0 }
def laws_szDecS_b4 : HCode := (.seq (.reg [⟨some 26, .mov (.t 1), none⟩, ⟨some 4, .mov (.t 26), none⟩]) .ret)
def laws_szDecS_b8 : HCode := (.reg [⟨some 16, .mov (.t 5), none⟩, ⟨some 17, .bin .add (.t 16) (.c (.int .i64 1)), none⟩, ⟨some 5, .mov (.t 17), none⟩])
def laws_szDecS_b11 : HCode := (.seq (.reg [⟨some 4, .mov (.c (.int .i64 (-1))), none⟩]) .ret)
def laws_szDecS_b10 : HCode := (.cond (.t 25) laws_szDecS_b11 .skip)
def laws_szDecS_b9 : HCode := (.seq (.reg [⟨some 24, .mov (.t 1), none⟩, ⟨some 25, .bin .lss (.t 24) (.c (.int .i64 0)), none⟩]) laws_szDecS_b10)
def laws_szDecS_b7 : HCode := (.seq (.block 1 (.seq (.reg [⟨some 18, .mov (.t 0), none⟩, ⟨some 19, .mov (.t 5), none⟩, ⟨some 20, .iaddr 9 (.t 18) (.t 19), none⟩, ⟨some 21, .load true 9 (.t 20), none⟩, ⟨some 22, .mov (.t 1), none⟩, ⟨some 23, .call (.c (.fn F.laws_szDec [] [])) [(.t 21), (.t 22)], none⟩, ⟨some 1, .mov (.t 23), none⟩]) laws_szDecS_b9)) laws_szDecS_b8)
def laws_szDecS_b12 : HCode := (.cond (.t 15) .skip (.exit 0))
def laws_szDecS_l6 : HCode := (.seq (.seq (.reg [⟨some 12, .mov (.t 5), none⟩, ⟨some 13, .mov (.t 0), none⟩, ⟨some 14, .len (.t 13), none⟩, ⟨some 15, .bin .lss (.t 12) (.t 14), none⟩]) laws_szDecS_b12) laws_szDecS_b7)
def laws_szDecS_b5 : HCode := (.block 0 (.loop laws_szDecS_l6))
def laws_szDecS_b3 : HCode := (.seq (.seq (.reg [⟨some 5, .mov (.c (.int .i64 0)), none⟩]) laws_szDecS_b5) laws_szDecS_b4)
def laws_szDecS_b14 : HCode := (.seq (.reg [⟨some 4, .mov (.c (.int .i64 (-1))), none⟩]) .ret)
def laws_szDecS_b13 : HCode := (.cond (.t 11) laws_szDecS_b14 .skip)
def laws_szDecS_b2 : HCode := (.seq (.seq (.reg [⟨some 10, .mov (.t 1), none⟩, ⟨some 11, .bin .lss (.t 10) (.c (.int .i64 0)), none⟩]) laws_szDecS_b13) laws_szDecS_b3)
def laws_szDecS_b1 : HCode := (.seq (.reg [⟨some 6, .mov (.t 1), none⟩, ⟨some 7, .mov (.t 0), none⟩, ⟨some 8, .len (.t 7), none⟩, ⟨some 9, .bin .sub (.t 6) (.t 8), none⟩, ⟨some 1, .mov (.t 9), none⟩]) laws_szDecS_b2)
def laws_szDecS_b0 : HCode := (.seq (.reg [⟨some 4, .mov (.c (.int .i64 0)), none⟩]) laws_szDecS_b1)
def laws_szDecS : HFunc := { np := 2, ntmps := 27, results := [(4, none)], body := laws_szDecS_b0 }
def laws_szExp_b9 : HCode := (.seq (.reg [⟨some 30, .mov (.t 1), none⟩, ⟨some 4, .mov (.t 30), none⟩]) .ret)
def laws_szExp_b11 : HCode := (.seq (.reg [⟨some 4, .mov (.c (.int .i64 (-1))), none⟩]) .ret)
def laws_szExp_b10 : HCode := (.cond (.t 29) laws_szExp_b11 .skip)
def laws_szExp_b8 : HCode := (.seq (.seq (.reg [⟨some 28, .mov (.t 1), none⟩, ⟨some 29, .bin .lss (.t 28) (.c (.int .i64 0)), none⟩]) laws_szExp_b10) laws_szExp_b9)
def laws_szExp_b7 : HCode := (.seq (.reg [⟨some 24, .faddr 5 (.t 2), none⟩, ⟨some 25, .load false 1 (.t 24), none⟩, ⟨some 26, .mov (.t 1), none⟩, ⟨some 27, .call (.c (.fn F.laws_szAltS [] [])) [(.t 25), (.t 26)], none⟩, ⟨some 1, .mov (.t 27), none⟩]) laws_szExp_b8)
def laws_szExp_b13 : HCode := (.seq (.reg [⟨some 4, .mov (.c (.int .i64 (-1))), none⟩]) .ret)
def laws_szExp_b12 : HCode := (.cond (.t 23) laws_szExp_b13 .skip)
def laws_szExp_b6 : HCode := (.seq (.seq (.reg [⟨some 22, .mov (.t 1), none⟩, ⟨some 23, .bin .lss (.t 22) (.c (.int .i64 0)), none⟩]) laws_szExp_b12) laws_szExp_b7)
def laws_szExp_b5 : HCode := (.seq (.reg [⟨some 18, .faddr 4 (.t 2), none⟩, ⟨some 19, .load false 1 (.t 18), none⟩, ⟨some 20, .mov (.t 1), none⟩, ⟨some 21, .call (.c (.fn F.laws_szDecS [] [])) [(.t 19), (.t 20)], none⟩, ⟨some 1, .mov (.t 21), none⟩]) laws_szExp_b6)
def laws_szExp_b15 : HCode := (.seq (.reg [⟨some 4, .mov (.c (.int .i64 (-1))), none⟩]) .ret)
def laws_szExp_b14 : HCode := (.cond (.t 17) laws_szExp_b15 .skip)
def laws_szExp_b4 : HCode := (.seq (.seq (.reg [⟨some 16, .mov (.t 1), none⟩, ⟨some 17, .bin .lss (.t 16) (.c (.int .i64 0)), none⟩]) laws_szExp_b14) laws_szExp_b5)
def laws_szExp_b3 : HCode := (.seq (.reg [⟨some 12, .faddr 3 (.t 2), none⟩, ⟨some 13, .load false 1 (.t 12), none⟩, ⟨some 14, .mov (.t 1), none⟩, ⟨some 15, .call (.c (.fn F.laws_szExpS [] [])) [(.t 13), (.t 14)], none⟩, ⟨some 1, .mov (.t 15), none⟩]) laws_szExp_b4)
def laws_szExp_b17 : HCode := (.seq (.reg [⟨some 4, .mov (.c (.int .i64 (-1))), none⟩]) .ret)
def laws_szExp_b16 : HCode := (.cond (.t 11) laws_szExp_b17 .skip)
def laws_szExp_b2 : HCode := (.seq (.seq (.reg [⟨some 10, .mov (.t 1), none⟩, ⟨some 11, .bin .lss (.t 10) (.c (.int .i64 0)), none⟩]) laws_szExp_b16) laws_szExp_b3)
def laws_szExp_b1 : HCode := (.seq (.reg [⟨some 5, .mov (.t 1), none⟩, ⟨some 6, .faddr 1 (.t 2), none⟩, ⟨some 7, .load false 1 (.t 6), none⟩, ⟨some 8, .slen (.t 7), none⟩, ⟨some 9, .bin .sub (.t 5) (.t 8), none⟩, ⟨some 1, .mov (.t 9), none⟩]) laws_szExp_b2)
def laws_szExp_b0 : HCode := (.seq (.reg [⟨some 2, .box (.t 0), none⟩, ⟨some 4, .mov (.c (.int .i64 0)), none⟩]) laws_szExp_b1)
def laws_szExp : HFunc := { np := 2, ntmps := 31, results := [(4, none)], body := laws_szExp_b0 }
def laws_szExpS_b4 : HCode := (.seq (.reg [⟨some 26, .mov (.t 1), none⟩, ⟨some 4, .mov (.t 26), none⟩]) .ret)
def laws_szExpS_b8 : HCode := (.reg [⟨some 16, .mov (.t 5), none⟩, ⟨some 17, .bin .add (.t 16) (.c (.int .i64 1)), none⟩, ⟨some 5, .mov (.t 17), none⟩])
def laws_szExpS_b11 : HCode := (.seq (.reg [⟨some 4, .mov (.c (.int .i64 (-1))), none⟩]) .ret)
def laws_szExpS_b10 : HCode := (.cond (.t 25) laws_szExpS_b11 .skip)
def laws_szExpS_b9 : HCode := (.seq (.reg [⟨some 24, .mov (.t 1), none⟩, ⟨some 25, .bin .lss (.t 24) (.c (.int .i64 0)), none⟩]) laws_szExpS_b10)
def laws_szExpS_b7 : HCode := (.seq (.block 1 (.seq (.reg [⟨some 18, .mov (.t 0), none⟩, ⟨some 19, .mov (.t 5), none⟩, ⟨some 20, .iaddr 6 (.t 18) (.t 19), none⟩, ⟨some 21, .load true 6 (.t 20), none⟩, ⟨some 22, .mov (.t 1), none⟩, ⟨some 23, .call (.c (.fn F.laws_szExp [] [])) [(.t 21), (.t 22)], none⟩, ⟨some 1, .mov (.t 23), none⟩]) laws_szExpS_b9)) laws_szExpS_b8)
def laws_szExpS_b12 : HCode := (.cond (.t 15) .skip (.exit 0))
def laws_szExpS_l6 : HCode := (.seq (.seq (.reg [⟨some 12, .mov (.t 5), none⟩, ⟨some 13, .mov (.t 0), none⟩, ⟨some 14, .len (.t 13), none⟩, ⟨some 15, .bin .lss (.t 12) (.t 14), none⟩]) laws_szExpS_b12) laws_szExpS_b7)
def laws_szExpS_b5 : HCode := (.block 0 (.loop laws_szExpS_l6))
def laws_szExpS_b3 : HCode := (.seq (.seq (.reg [⟨some 5, .mov (.c (.int .i64 0)), none⟩]) laws_szExpS_b5) laws_szExpS_b4)
def laws_szExpS_b14 : HCode := (.seq (.reg [⟨some 4, .mov (.c (.int .i64 (-1))), none⟩]) .ret)
def laws_szExpS_b13 : HCode := (.cond (.t 11) laws_szExpS_b14 .skip)
def laws_szExpS_b2 : HCode := (.seq (.seq (.reg [⟨some 10, .mov (.t 1), none⟩, ⟨some 11, .bin .lss (.t 10) (.c (.int .i64 0)), none⟩]) laws_szExpS_b13) laws_szExpS_b3)
def laws_szExpS_b1 : HCode := (.seq (.reg [⟨some 6, .mov (.t 1), none⟩, ⟨some 7, .mov (.t 0), none⟩, ⟨some 8, .len (.t 7), none⟩, ⟨some 9, .bin .sub (.t 6) (.t 8), none⟩, ⟨some 1, .mov (.t 9), none⟩]) laws_szExpS_b2)
def laws_szExpS_b0 : HCode := (.seq (.reg [⟨some 4, .mov (.c (.int .i64 0)), none⟩]) laws_szExpS_b1)
def laws_szExpS : HFunc := { np := 2, ntmps := 27, results := [(4, none)], body := laws_szExpS_b0 }
def laws_szProg_b5 : HCode := (.seq (.reg [⟨some 17, .mov (.t 1), none⟩, ⟨some 4, .mov (.t 17), none⟩]) .ret)
def laws_szProg_b7 : HCode := (.seq (.reg [⟨some 4, .mov (.c (.int .i64 (-1))), none⟩]) .ret)
def laws_szProg_b6 : HCode := (.cond (.t 16) laws_szProg_b7 .skip)
def laws_szProg_b4 : HCode := (.seq (.seq (.reg [⟨some 15, .mov (.t 1), none⟩, ⟨some 16, .bin .lss (.t 15) (.c (.int .i64 0)), none⟩]) laws_szProg_b6) laws_szProg_b5)
def laws_szProg_b3 : HCode := (.seq (.reg [⟨some 11, .faddr 1 (.t 2), none⟩, ⟨some 12, .load false 1 (.t 11), none⟩, ⟨some 13, .mov (.t 1), none⟩, ⟨some 14, .call (.c (.fn F.laws_szDecS [] [])) [(.t 12), (.t 13)], none⟩, ⟨some 1, .mov (.t 14), none⟩]) laws_szProg_b4)
def laws_szProg_b9 : HCode := (.seq (.reg [⟨some 4, .mov (.c (.int .i64 (-1))), none⟩]) .ret)
def laws_szProg_b8 : HCode := (.cond (.t 10) laws_szProg_b9 .skip)
def laws_szProg_b2 : HCode := (.seq (.seq (.reg [⟨some 9, .mov (.t 1), none⟩, ⟨some 10, .bin .lss (.t 9) (.c (.int .i64 0)), none⟩]) laws_szProg_b8) laws_szProg_b3)
def laws_szProg_b1 : HCode := (.seq (.reg [⟨some 5, .faddr 0 (.t 2), none⟩, ⟨some 6, .load false 1 (.t 5), none⟩, ⟨some 7, .mov (.t 1), none⟩, ⟨some 8, .call (.c (.fn F.laws_szDataS [] [])) [(.t 6), (.t 7)], none⟩, ⟨some 1, .mov (.t 8), none⟩]) laws_szProg_b2)
def laws_szProg_b0 : HCode := (.seq (.reg [⟨some 2, .box (.t 0), none⟩, ⟨some 4, .mov (.c (.int .i64 0)), none⟩]) laws_szProg_b1)
def laws_szProg : HFunc := { np := 2, ntmps := 18, results := [(4, none)], body := laws_szProg_b0 }
def laws_eqTy_b5 : HCode := (.seq (.reg [⟨some 4, .mov (.c (.bool true)), none⟩]) .ret)
def laws_eqTy_b7 : HCode := (.seq (.reg [⟨some 4, .mov (.c (.bool false)), none⟩]) .ret)
def laws_eqTy_b6 : HCode := (.cond (.t 25) laws_eqTy_b7 .skip)
def laws_eqTy_b4 : HCode := (.seq (.seq (.reg [⟨some 20, .faddr 3 (.t 2), none⟩, ⟨some 21, .load false 1 (.t 20), none⟩, ⟨some 22, .faddr 3 (.t 3), none⟩, ⟨some 23, .load false 1 (.t 22), none⟩, ⟨some 24, .call (.c (.fn F.laws_eqTyS [] [])) [(.t 21), (.t 23)], none⟩, ⟨some 25, .not (.t 24), none⟩]) laws_eqTy_b6) laws_eqTy_b5)
def laws_eqTy_b9 : HCode := (.seq (.reg [⟨some 4, .mov (.c (.bool false)), none⟩]) .ret)
def laws_eqTy_b8 : HCode := (.cond (.t 19) laws_eqTy_b9 .skip)
def laws_eqTy_b3 : HCode := (.seq (.seq (.reg [⟨some 15, .faddr 2 (.t 2), none⟩, ⟨some 16, .load false 1 (.t 15), none⟩, ⟨some 17, .faddr 2 (.t 3), none⟩, ⟨some 18, .load false 1 (.t 17), none⟩, ⟨some 19, .bin .neq (.t 16) (.t 18), none⟩]) laws_eqTy_b8) laws_eqTy_b4)
def laws_eqTy_b11 : HCode := (.seq (.reg [⟨some 4, .mov (.c (.bool false)), none⟩]) .ret)
def laws_eqTy_b10 : HCode := (.cond (.t 14) laws_eqTy_b11 .skip)
def laws_eqTy_b2 : HCode := (.seq (.seq (.reg [⟨some 10, .faddr 1 (.t 2), none⟩, ⟨some 11, .load false 1 (.t 10), none⟩, ⟨some 12, .faddr 1 (.t 3), none⟩, ⟨some 13, .load false 1 (.t 12), none⟩, ⟨some 14, .bin .neq (.t 11) (.t 13), none⟩]) laws_eqTy_b10) laws_eqTy_b3)
def laws_eqTy_b13 : HCode := (.seq (.reg [⟨some 4, .mov (.c (.bool false)), none⟩]) .ret)
def laws_eqTy_b12 : HCode := (.cond (.t 9) laws_eqTy_b13 .skip)
def laws_eqTy_b1 : HCode := (.seq (.seq (.reg [⟨some 5, .faddr 0 (.t 2), none⟩, ⟨some 6, .load false 1 (.t 5), none⟩, ⟨some 7, .faddr 0 (.t 3), none⟩, ⟨some 8, .load false 1 (.t 7), none⟩, ⟨some 9, .bin .neq (.t 6) (.t 8), none⟩]) laws_eqTy_b12) laws_eqTy_b2)
def laws_eqTy_b0 : HCode := (.seq (.reg [⟨some 2, .box (.t 0), none⟩, ⟨some 3, .box (.t 1), none⟩, ⟨some 4, .mov (.c (.bool false)), none⟩]) laws_eqTy_b1)
def laws_eqTy : HFunc := { np := 2, ntmps := 26, results := [(4, none)], body := laws_eqTy_b0 }
def laws_eqTyS_b3 : HCode := (.seq (.reg [⟨some 4, .mov (.c (.bool true)), none⟩]) .ret)
def laws_eqTyS_b7 : HCode := (.reg [⟨some 15, .mov (.t 5), none⟩, ⟨some 16, .bin .add (.t 15) (.c (.int .i64 1)), none⟩, ⟨some 5, .mov (.t 16), none⟩])
def laws_eqTyS_b9 : HCode := (.seq (.reg [⟨some 4, .mov (.c (.bool false)), none⟩]) .ret)
def laws_eqTyS_b8 : HCode := (.cond (.t 26) laws_eqTyS_b9 .skip)
def laws_eqTyS_b6 : HCode := (.seq (.block 1 (.seq (.dreg (.q ⟨some 17, .mov (.t 0), none⟩ (.q ⟨some 18, .mov (.t 5), none⟩ (.q ⟨some 19, .iaddr 4 (.t 17) (.t 18), none⟩ (.q ⟨some 20, .load true 4 (.t 19), none⟩ (.q ⟨some 21, .mov (.t 1), none⟩ (.q ⟨some 22, .mov (.t 5), none⟩ (.q ⟨some 23, .iaddr 4 (.t 21) (.t 22), none⟩ (.q ⟨some 24, .load true 4 (.t 23), none⟩ (.l ⟨some 25, .call (.c (.fn F.laws_eqTy [] [])) [(.t 20), (.t 24)], none⟩ [] (.q ⟨some 26, .not (.t 25), none⟩ .done) .none)))))))))) laws_eqTyS_b8)) laws_eqTyS_b7)
def laws_eqTyS_b10 : HCode := (.cond (.t 14) .skip (.exit 0))
def laws_eqTyS_l5 : HCode := (.seq (.seq (.reg [⟨some 11, .mov (.t 5), none⟩, ⟨some 12, .mov (.t 0), none⟩, ⟨some 13, .len (.t 12), none⟩, ⟨some 14, .bin .lss (.t 11) (.t 13), none⟩]) laws_eqTyS_b10) laws_eqTyS_b6)
def laws_eqTyS_b4 : HCode := (.block 0 (.loop laws_eqTyS_l5))
def laws_eqTyS_b2 : HCode := (.seq (.seq (.reg [⟨some 5, .mov (.c (.int .i64 0)), none⟩]) laws_eqTyS_b4) laws_eqTyS_b3)
def laws_eqTyS_b12 : HCode := (.seq (.reg [⟨some 4, .mov (.c (.bool false)), none⟩]) .ret)
def laws_eqTyS_b11 : HCode := (.cond (.t 10) laws_eqTyS_b12 .skip)
def laws_eqTyS_b1 : HCode := (.seq (.seq (.reg [⟨some 6, .mov (.t 0), none⟩, ⟨some 7, .len (.t 6), none⟩, ⟨some 8, .mov (.t 1), none⟩, ⟨some 9, .len (.t 8), none⟩, ⟨some 10, .bin .neq (.t 7) (.t 9), none⟩]) laws_eqTyS_b11) laws_eqTyS_b2)
def laws_eqTyS_b0 : HCode := (.seq (.reg [⟨some 4, .mov (.c (.bool false)), none⟩]) laws_eqTyS_b1)
def laws_eqTyS : HFunc := { np := 2, ntmps := 27, results := [(4, none)], body := laws_eqTyS_b0 }
def laws_eqCon_b3 : HCode := (.seq (.reg [⟨some 4, .mov (.c (.bool true)), none⟩]) .ret)
def laws_eqCon_b5 : HCode := (.seq (.reg [⟨some 4, .mov (.c (.bool false)), none⟩]) .ret)
def laws_eqCon_b4 : HCode := (.cond (.t 15) laws_eqCon_b5 .skip)
def laws_eqCon_b2 : HCode := (.seq (.seq (.reg [⟨some 10, .faddr 1 (.t 2), none⟩, ⟨some 11, .load false 1 (.t 10), none⟩, ⟨some 12, .faddr 1 (.t 3), none⟩, ⟨some 13, .load false 1 (.t 12), none⟩, ⟨some 14, .call (.c (.fn F.laws_eqTyS [] [])) [(.t 11), (.t 13)], none⟩, ⟨some 15, .not (.t 14), none⟩]) laws_eqCon_b4) laws_eqCon_b3)
def laws_eqCon_b7 : HCode := (.seq (.reg [⟨some 4, .mov (.c (.bool false)), none⟩]) .ret)
def laws_eqCon_b6 : HCode := (.cond (.t 9) laws_eqCon_b7 .skip)
def laws_eqCon_b1 : HCode := (.seq (.seq (.reg [⟨some 5, .faddr 0 (.t 2), none⟩, ⟨some 6, .load false 1 (.t 5), none⟩, ⟨some 7, .faddr 0 (.t 3), none⟩, ⟨some 8, .load false 1 (.t 7), none⟩, ⟨some 9, .bin .neq (.t 6) (.t 8), none⟩]) laws_eqCon_b6) laws_eqCon_b2)
def laws_eqCon_b0 : HCode := (.seq (.reg [⟨some 2, .box (.t 0), none⟩, ⟨some 3, .box (.t 1), none⟩, ⟨some 4, .mov (.c (.bool false)), none⟩]) laws_eqCon_b1)
def laws_eqCon : HFunc := { np := 2, ntmps := 16, results := [(4, none)], body := laws_eqCon_b0 }
def laws_eqConS_b3 : HCode := (.seq (.reg [⟨some 4, .mov (.c (.bool true)), none⟩]) .ret)
def laws_eqConS_b7 : HCode := (.reg [⟨some 15, .mov (.t 5), none⟩, ⟨some 16, .bin .add (.t 15) (.c (.int .i64 1)), none⟩, ⟨some 5, .mov (.t 16), none⟩])
def laws_eqConS_b9 : HCode := (.seq (.reg [⟨some 4, .mov (.c (.bool false)), none⟩]) .ret)
def laws_eqConS_b8 : HCode := (.cond (.t 26) laws_eqConS_b9 .skip)
def laws_eqConS_b6 : HCode := (.seq (.block 1 (.seq (.dreg (.q ⟨some 17, .mov (.t 0), none⟩ (.q ⟨some 18, .mov (.t 5), none⟩ (.q ⟨some 19, .iaddr 2 (.t 17) (.t 18), none⟩ (.q ⟨some 20, .load true 2 (.t 19), none⟩ (.q ⟨some 21, .mov (.t 1), none⟩ (.q ⟨some 22, .mov (.t 5), none⟩ (.q ⟨some 23, .iaddr 2 (.t 21) (.t 22), none⟩ (.q ⟨some 24, .load true 2 (.t 23), none⟩ (.l ⟨some 25, .call (.c (.fn F.laws_eqCon [] [])) [(.t 20), (.t 24)], none⟩ [] (.q ⟨some 26, .not (.t 25), none⟩ .done) .none)))))))))) laws_eqConS_b8)) laws_eqConS_b7)
def laws_eqConS_b10 : HCode := (.cond (.t 14) .skip (.exit 0))
def laws_eqConS_l5 : HCode := (.seq (.seq (.reg [⟨some 11, .mov (.t 5), none⟩, ⟨some 12, .mov (.t 0), none⟩, ⟨some 13, .len (.t 12), none⟩, ⟨some 14, .bin .lss (.t 11) (.t 13), none⟩]) laws_eqConS_b10) laws_eqConS_b6)
def laws_eqConS_b4 : HCode := (.block 0 (.loop laws_eqConS_l5))
def laws_eqConS_b2 : HCode := (.seq (.seq (.reg [⟨some 5, .mov (.c (.int .i64 0)), none⟩]) laws_eqConS_b4) laws_eqConS_b3)
def laws_eqConS_b12 : HCode := (.seq (.reg [⟨some 4, .mov (.c (.bool false)), none⟩]) .ret)
def laws_eqConS_b11 : HCode := (.cond (.t 10) laws_eqConS_b12 .skip)
def laws_eqConS_b1 : HCode := (.seq (.seq (.reg [⟨some 6, .mov (.t 0), none⟩, ⟨some 7, .len (.t 6), none⟩, ⟨some 8, .mov (.t 1), none⟩, ⟨some 9, .len (.t 8), none⟩, ⟨some 10, .bin .neq (.t 7) (.t 9), none⟩]) laws_eqConS_b11) laws_eqConS_b2)
def laws_eqConS_b0 : HCode := (.seq (.reg [⟨some 4, .mov (.c (.bool false)), none⟩]) laws_eqConS_b1)
def laws_eqConS : HFunc := { np := 2, ntmps := 27, results := [(4, none)], body := laws_eqConS_b0 }
def laws_eqData_b3 : HCode := (.seq (.reg [⟨some 4, .mov (.c (.bool true)), none⟩]) .ret)
def laws_eqData_b5 : HCode := (.seq (.reg [⟨some 4, .mov (.c (.bool false)), none⟩]) .ret)
def laws_eqData_b4 : HCode := (.cond (.t 15) laws_eqData_b5 .skip)
def laws_eqData_b2 : HCode := (.seq (.seq (.reg [⟨some 10, .faddr 1 (.t 2), none⟩, ⟨some 11, .load false 1 (.t 10), none⟩, ⟨some 12, .faddr 1 (.t 3), none⟩, ⟨some 13, .load false 1 (.t 12), none⟩, ⟨some 14, .call (.c (.fn F.laws_eqConS [] [])) [(.t 11), (.t 13)], none⟩, ⟨some 15, .not (.t 14), none⟩]) laws_eqData_b4) laws_eqData_b3)
def laws_eqData_b7 : HCode := (.seq (.reg [⟨some 4, .mov (.c (.bool false)), none⟩]) .ret)
def laws_eqData_b6 : HCode := (.cond (.t 9) laws_eqData_b7 .skip)
def laws_eqData_b1 : HCode := (.seq (.seq (.reg [⟨some 5, .faddr 0 (.t 2), none⟩, ⟨some 6, .load false 1 (.t 5), none⟩, ⟨some 7, .faddr 0 (.t 3), none⟩, ⟨some 8, .load false 1 (.t 7), none⟩, ⟨some 9, .bin .neq (.t 6) (.t 8), none⟩]) laws_eqData_b6) laws_eqData_b2)
def laws_eqData_b0 : HCode := (.seq (.reg [⟨some 2, .box (.t 0), none⟩, ⟨some 3, .box (.t 1), none⟩, ⟨some 4, .mov (.c (.bool false)), none⟩]) laws_eqData_b1)
def laws_eqData : HFunc := { np := 2, ntmps := 16, results := [(4, none)], body := laws_eqData_b0 }
def laws_eqDataS_b3 : HCode := (.seq (.reg [⟨some 4, .mov (.c (.bool true)), none⟩]) .ret)
def laws_eqDataS_b7 : HCode := (.reg [⟨some 15, .mov (.t 5), none⟩, ⟨some 16, .bin .add (.t 15) (.c (.int .i64 1)), none⟩, ⟨some 5, .mov (.t 16), none⟩])
def laws_eqDataS_b9 : HCode := (.seq (.reg [⟨some 4, .mov (.c (.bool false)), none⟩]) .ret)
def laws_eqDataS_b8 : HCode := (.cond (.t 26) laws_eqDataS_b9 .skip)
def laws_eqDataS_b6 : HCode := (.seq (.block 1 (.seq (.dreg (.q ⟨some 17, .mov (.t 0), none⟩ (.q ⟨some 18, .mov (.t 5), none⟩ (.q ⟨some 19, .iaddr 2 (.t 17) (.t 18), none⟩ (.q ⟨some 20, .load true 2 (.t 19), none⟩ (.q ⟨some 21, .mov (.t 1), none⟩ (.q ⟨some 22, .mov (.t 5), none⟩ (.q ⟨some 23, .iaddr 2 (.t 21) (.t 22), none⟩ (.q ⟨some 24, .load true 2 (.t 23), none⟩ (.l ⟨some 25, .call (.c (.fn F.laws_eqData [] [])) [(.t 20), (.t 24)], none⟩ [] (.q ⟨some 26, .not (.t 25), none⟩ .done) .none)))))))))) laws_eqDataS_b8)) laws_eqDataS_b7)
def laws_eqDataS_b10 : HCode := (.cond (.t 14) .skip (.exit 0))
def laws_eqDataS_l5 : HCode := (.seq (.seq (.reg [⟨some 11, .mov (.t 5), none⟩, ⟨some 12, .mov (.t 0), none⟩, ⟨some 13, .len (.t 12), none⟩, ⟨some 14, .bin .lss (.t 11) (.t 13), none⟩]) laws_eqDataS_b10) laws_eqDataS_b6)
def laws_eqDataS_b4 : HCode := (.block 0 (.loop laws_eqDataS_l5))
def laws_eqDataS_b2 : HCode := (.seq (.seq (.reg [⟨some 5, .mov (.c (.int .i64 0)), none⟩]) laws_eqDataS_b4) laws_eqDataS_b3)
def laws_eqDataS_b12 : HCode := (.seq (.reg [⟨some 4, .mov (.c (.bool false)), none⟩]) .ret)
def laws_eqDataS_b11 : HCode := (.cond (.t 10) laws_eqDataS_b12 .skip)
def laws_eqDataS_b1 : HCode := (.seq (.seq (.reg [⟨some 6, .mov (.t 0), none⟩, ⟨some 7, .len (.t 6), none⟩, ⟨some 8, .mov (.t 1), none⟩, ⟨some 9, .len (.t 8), none⟩, ⟨some 10, .bin .neq (.t 7) (.t 9), none⟩]) laws_eqDataS_b11) laws_eqDataS_b2)
def laws_eqDataS_b0 : HCode := (.seq (.reg [⟨some 4, .mov (.c (.bool false)), none⟩]) laws_eqDataS_b1)
def laws_eqDataS : HFunc := { np := 2, ntmps := 27, results := [(4, none)], body := laws_eqDataS_b0 }
def laws_eqStringS_b3 : HCode := (.seq (.reg [⟨some 4, .mov (.c (.bool true)), none⟩]) .ret)
def laws_eqStringS_b7 : HCode := (.reg [⟨some 15, .mov (.t 5), none⟩, ⟨some 16, .bin .add (.t 15) (.c (.int .i64 1)), none⟩, ⟨some 5, .mov (.t 16), none⟩])
def laws_eqStringS_b9 : HCode := (.seq (.reg [⟨some 4, .mov (.c (.bool false)), none⟩]) .ret)
def laws_eqStringS_b8 : HCode := (.cond (.t 25) laws_eqStringS_b9 .skip)
def laws_eqStringS_b6 : HCode := (.seq (.block 1 (.seq (.dreg (.q ⟨some 17, .mov (.t 0), none⟩ (.q ⟨some 18, .mov (.t 5), none⟩ (.q ⟨some 19, .iaddr 1 (.t 17) (.t 18), none⟩ (.q ⟨some 20, .load false 1 (.t 19), none⟩ (.q ⟨some 21, .mov (.t 1), none⟩ (.q ⟨some 22, .mov (.t 5), none⟩ (.q ⟨some 23, .iaddr 1 (.t 21) (.t 22), none⟩ (.q ⟨some 24, .load false 1 (.t 23), none⟩ (.q ⟨some 25, .bin .neq (.t 20) (.t 24), none⟩ .done)))))))))) laws_eqStringS_b8)) laws_eqStringS_b7)
def laws_eqStringS_b10 : HCode := (.cond (.t 14) .skip (.exit 0))
def laws_eqStringS_l5 : HCode := (.seq (.seq (.reg [⟨some 11, .mov (.t 5), none⟩, ⟨some 12, .mov (.t 0), none⟩, ⟨some 13, .len (.t 12), none⟩, ⟨some 14, .bin .lss (.t 11) (.t 13), none⟩]) laws_eqStringS_b10) laws_eqStringS_b6)
def laws_eqStringS_b4 : HCode := (.block 0 (.loop laws_eqStringS_l5))
def laws_eqStringS_b2 : HCode := (.seq (.seq (.reg [⟨some 5, .mov (.c (.int .i64 0)), none⟩]) laws_eqStringS_b4) laws_eqStringS_b3)
def laws_eqStringS_b12 : HCode := (.seq (.reg [⟨some 4, .mov (.c (.bool false)), none⟩]) .ret)
def laws_eqStringS_b11 : HCode := (.cond (.t 10) laws_eqStringS_b12 .skip)
def laws_eqStringS_b1 : HCode := (.seq (.seq (.reg [⟨some 6, .mov (.t 0), none⟩, ⟨some 7, .len (.t 6), none⟩, ⟨some 8, .mov (.t 1), none⟩, ⟨some 9, .len (.t 8), none⟩, ⟨some 10, .bin .neq (.t 7) (.t 9), none⟩]) laws_eqStringS_b11) laws_eqStringS_b2)
def laws_eqStringS_b0 : HCode := (.seq (.reg [⟨some 4, .mov (.c (.bool false)), none⟩]) laws_eqStringS_b1)
def laws_eqStringS : HFunc := { np := 2, ntmps := 26, results := [(4, none)], body := laws_eqStringS_b0 }
def laws_eqAlt_b4 : HCode := (.seq (.reg [⟨some 4, .mov (.c (.bool true)), none⟩]) .ret)
def laws_eqAlt_b6 : HCode := (.seq (.reg [⟨some 4, .mov (.c (.bool false)), none⟩]) .ret)
def laws_eqAlt_b5 : HCode := (.cond (.t 21) laws_eqAlt_b6 .skip)
def laws_eqAlt_b3 : HCode := (.seq (.seq (.reg [⟨some 16, .faddr 2 (.t 2), none⟩, ⟨some 17, .load true 6 (.t 16), none⟩, ⟨some 18, .faddr 2 (.t 3), none⟩, ⟨some 19, .load true 6 (.t 18), none⟩, ⟨some 20, .call (.c (.fn F.laws_eqExp [] [])) [(.t 17), (.t 19)], none⟩, ⟨some 21, .not (.t 20), none⟩]) laws_eqAlt_b5) laws_eqAlt_b4)
def laws_eqAlt_b8 : HCode := (.seq (.reg [⟨some 4, .mov (.c (.bool false)), none⟩]) .ret)
def laws_eqAlt_b7 : HCode := (.cond (.t 15) laws_eqAlt_b8 .skip)
def laws_eqAlt_b2 : HCode := (.seq (.seq (.reg [⟨some 10, .faddr 1 (.t 2), none⟩, ⟨some 11, .load false 1 (.t 10), none⟩, ⟨some 12, .faddr 1 (.t 3), none⟩, ⟨some 13, .load false 1 (.t 12), none⟩, ⟨some 14, .call (.c (.fn F.laws_eqStringS [] [])) [(.t 11), (.t 13)], none⟩, ⟨some 15, .not (.t 14), none⟩]) laws_eqAlt_b7) laws_eqAlt_b3)
def laws_eqAlt_b10 : HCode := (.seq (.reg [⟨some 4, .mov (.c (.bool false)), none⟩]) .ret)
def laws_eqAlt_b9 : HCode := (.cond (.t 9) laws_eqAlt_b10 .skip)
def laws_eqAlt_b1 : HCode := (.seq (.seq (.reg [⟨some 5, .faddr 0 (.t 2), none⟩, ⟨some 6, .load false 1 (.t 5), none⟩, ⟨some 7, .faddr 0 (.t 3), none⟩, ⟨some 8, .load false 1 (.t 7), none⟩, ⟨some 9, .bin .neq (.t 6) (.t 8), none⟩]) laws_eqAlt_b9) laws_eqAlt_b2)
def laws_eqAlt_b0 : HCode := (.seq (.reg [⟨some 2, .box (.t 0), none⟩, ⟨some 3, .box (.t 1), none⟩, ⟨some 4, .mov (.c (.bool false)), none⟩]) laws_eqAlt_b1)
def laws_eqAlt : HFunc := { np := 2, ntmps := 22, results := [(4, none)], body := laws_eqAlt_b0 }
def laws_eqAltS_b3 : HCode := (.seq (.reg [⟨some 4, .mov (.c (.bool true)), none⟩]) .ret)
def laws_eqAltS_b7 : HCode := (.reg [⟨some 15, .mov (.t 5), none⟩, ⟨some 16, .bin .add (.t 15) (.c (.int .i64 1)), none⟩, ⟨some 5, .mov (.t 16), none⟩])
def laws_eqAltS_b9 : HCode := (.seq (.reg [⟨some 4, .mov (.c (.bool false)), none⟩]) .ret)
def laws_eqAltS_b8 : HCode := (.cond (.t 26) laws_eqAltS_b9 .skip)
def laws_eqAltS_b6 : HCode := (.seq (.block 1 (.seq (.dreg (.q ⟨some 17, .mov (.t 0), none⟩ (.q ⟨some 18, .mov (.t 5), none⟩ (.q ⟨some 19, .iaddr 8 (.t 17) (.t 18), none⟩ (.q ⟨some 20, .load true 8 (.t 19), none⟩ (.q ⟨some 21, .mov (.t 1), none⟩ (.q ⟨some 22, .mov (.t 5), none⟩ (.q ⟨some 23, .iaddr 8 (.t 21) (.t 22), none⟩ (.q ⟨some 24, .load true 8 (.t 23), none⟩ (.l ⟨some 25, .call (.c (.fn F.laws_eqAlt [] [])) [(.t 20), (.t 24)], none⟩ [] (.q ⟨some 26, .not (.t 25), none⟩ .done) .none)))))))))) laws_eqAltS_b8)) laws_eqAltS_b7)
def laws_eqAltS_b10 : HCode := (.cond (.t 14) .skip (.exit 0))
def laws_eqAltS_l5 : HCode := (.seq (.seq (.reg [⟨some 11, .mov (.t 5), none⟩, ⟨some 12, .mov (.t 0), none⟩, ⟨some 13, .len (.t 12), none⟩, ⟨some 14, .bin .lss (.t 11) (.t 13), none⟩]) laws_eqAltS_b10) laws_eqAltS_b6)
def laws_eqAltS_b4 : HCode := (.block 0 (.loop laws_eqAltS_l5))
def laws_eqAltS_b2 : HCode := (.seq (.seq (.reg [⟨some 5, .mov (.c (.int .i64 0)), none⟩]) laws_eqAltS_b4) laws_eqAltS_b3)
def laws_eqAltS_b12 : HCode := (.seq (.reg [⟨some 4, .mov (.c (.bool false)), none⟩]) .ret)
def laws_eqAltS_b11 : HCode := (.cond (.t 10) laws_eqAltS_b12 .skip)
def laws_eqAltS_b1 : HCode := (.seq (.seq (.reg [⟨some 6, .mov (.t 0), none⟩, ⟨some 7, .len (.t 6), none⟩, ⟨some 8, .mov (.t 1), none⟩, ⟨some 9, .len (.t 8), none⟩, ⟨some 10, .bin .neq (.t 7) (.t 9), none⟩]) laws_eqAltS_b11) laws_eqAltS_b2)
def laws_eqAltS_b0 : HCode := (.seq (.reg [⟨some 4, .mov (.c (.bool false)), none⟩]) laws_eqAltS_b1)
def laws_eqAltS : HFunc := { np := 2, ntmps := 27, results := [(4, none)], body := laws_eqAltS_b0 }
def laws_eqDec_b5 : HCode := (.seq (.reg [⟨some 4, .mov (.c (.bool true)), none⟩]) .ret)
def laws_eqDec_b7 : HCode := (.seq (.reg [⟨some 4, .mov (.c (.bool false)), none⟩]) .ret)
def laws_eqDec_b6 : HCode := (.cond (.t 27) laws_eqDec_b7 .skip)
def laws_eqDec_b4 : HCode := (.seq (.seq (.reg [⟨some 22, .faddr 8 (.t 2), none⟩, ⟨some 23, .load false 1 (.t 22), none⟩, ⟨some 24, .faddr 8 (.t 3), none⟩, ⟨some 25, .load false 1 (.t 24), none⟩, ⟨some 26, .call (.c (.fn F.laws_eqDecS [] [])) [(.t 23), (.t 25)], none⟩, ⟨some 27, .not (.t 26), none⟩]) laws_eqDec_b6) laws_eqDec_b5)
def laws_eqDec_b9 : HCode := (.seq (.reg [⟨some 4, .mov (.c (.bool false)), none⟩]) .ret)
def laws_eqDec_b8 : HCode := (.cond (.t 21) laws_eqDec_b9 .skip)
def laws_eqDec_b3 : HCode := (.seq (.seq (.reg [⟨some 16, .faddr 2 (.t 2), none⟩, ⟨some 17, .load true 6 (.t 16), none⟩, ⟨some 18, .faddr 2 (.t 3), none⟩, ⟨some 19, .load true 6 (.t 18), none⟩, ⟨some 20, .call (.c (.fn F.laws_eqExp [] [])) [(.t 17), (.t 19)], none⟩, ⟨some 21, .not (.t 20), none⟩]) laws_eqDec_b8) laws_eqDec_b4)
def laws_eqDec_b11 : HCode := (.seq (.reg [⟨some 4, .mov (.c (.bool false)), none⟩]) .ret)
def laws_eqDec_b10 : HCode := (.cond (.t 15) laws_eqDec_b11 .skip)
def laws_eqDec_b2 : HCode := (.seq (.seq (.reg [⟨some 10, .faddr 1 (.t 2), none⟩, ⟨some 11, .load false 1 (.t 10), none⟩, ⟨some 12, .faddr 1 (.t 3), none⟩, ⟨some 13, .load false 1 (.t 12), none⟩, ⟨some 14, .call (.c (.fn F.laws_eqStringS [] [])) [(.t 11), (.t 13)], none⟩, ⟨some 15, .not (.t 14), none⟩]) laws_eqDec_b10) laws_eqDec_b3)
def laws_eqDec_b13 : HCode := (.seq (.reg [⟨some 4, .mov (.c (.bool false)), none⟩]) .ret)
def laws_eqDec_b12 : HCode := (.cond (.t 9) laws_eqDec_b13 .skip)
def laws_eqDec_b1 : HCode := (.seq (.seq (.reg [⟨some 5, .faddr 0 (.t 2), none⟩, ⟨some 6, .load false 1 (.t 5), none⟩, ⟨some 7, .faddr 0 (.t 3), none⟩, ⟨some 8, .load false 1 (.t 7), none⟩, ⟨some 9, .bin .neq (.t 6) (.t 8), none⟩]) laws_eqDec_b12) laws_eqDec_b2)
def laws_eqDec_b0 : HCode := (.seq (.reg [⟨some 2, .box (.t 0), none⟩, ⟨some 3, .box (.t 1), none⟩, ⟨some 4, .mov (.c (.bool false)), none⟩]) laws_eqDec_b1)
def laws_eqDec : HFunc := { np := 2, ntmps := 28, results := [(4, none)], body := laws_eqDec_b0 }
def laws_eqDecS_b3 : HCode := (.seq (.reg [⟨some 4, .mov (.c (.bool true)), none⟩]) .ret)
def laws_eqDecS_b7 : HCode := (.reg [⟨some 15, .mov (.t 5), none⟩, ⟨some 16, .bin .add (.t 15) (.c (.int .i64 1)), none⟩, ⟨some 5, .mov (.t 16), none⟩])
def laws_eqDecS_b9 : HCode := (.seq (.reg [⟨some 4, .mov (.c (.bool false)), none⟩]) .ret)
def laws_eqDecS_b8 : HCode := (.cond (.t 26) laws_eqDecS_b9 .skip)
def laws_eqDecS_b6 : HCode := (.seq (.block 1 (.seq (.dreg (.q ⟨some 17, .mov (.t 0), none⟩ (.q ⟨some 18, .mov (.t 5), none⟩ (.q ⟨some 19, .iaddr 9 (.t 17) (.t 18), none⟩ (.q ⟨some 20, .load true 9 (.t 19), none⟩ (.q ⟨some 21, .mov (.t 1), none⟩ (.q ⟨some 22, .mov (.t 5), none⟩ (.q ⟨some 23, .iaddr 9 (.t 21) (.t 22), none⟩ (.q ⟨some 24, .load true 9 (.t 23), none⟩ (.l ⟨some 25, .call (.c (.fn F.laws_eqDec [] [])) [(.t 20), (.t 24)], none⟩ [] (.q ⟨some 26, .not (.t 25), none⟩ .done) .none)))))))))) laws_eqDecS_b8)) laws_eqDecS_b7)
def laws_eqDecS_b10 : HCode := (.cond (.t 14) .skip (.exit 0))
def laws_eqDecS_l5 : HCode := (.seq (.seq (.reg [⟨some 11, .mov (.t 5), none⟩, ⟨some 12, .mov (.t 0), none⟩, ⟨some 13, .len (.t 12), none⟩, ⟨some 14, .bin .lss (.t 11) (.t 13), none⟩]) laws_eqDecS_b10) laws_eqDecS_b6)
def laws_eqDecS_b4 : HCode := (.block 0 (.loop laws_eqDecS_l5))
def laws_eqDecS_b2 : HCode := (.seq (.seq (.reg [⟨some 5, .mov (.c (.int .i64 0)), none⟩]) laws_eqDecS_b4) laws_eqDecS_b3)
def laws_eqDecS_b12 : HCode := (.seq (.reg [⟨some 4, .mov (.c (.bool false)), none⟩]) .ret)
def laws_eqDecS_b11 : HCode := (.cond (.t 10) laws_eqDecS_b12 .skip)
def laws_eqDecS_b1 : HCode := (.seq (.seq (.reg [⟨some 6, .mov (.t 0), none⟩, ⟨some 7, .len (.t 6), none⟩, ⟨some 8, .mov (.t 1), none⟩, ⟨some 9, .len (.t 8), none⟩, ⟨some 10, .bin .neq (.t 7) (.t 9), none⟩]) laws_eqDecS_b11) laws_eqDecS_b2)
def laws_eqDecS_b0 : HCode := (.seq (.reg [⟨some 4, .mov (.c (.bool false)), none⟩]) laws_eqDecS_b1)
def laws_eqDecS : HFunc := { np := 2, ntmps := 27, results := [(4, none)], body := laws_eqDecS_b0 }
def laws_eqExp_b7 : HCode := (.seq (.reg [⟨some 4, .mov (.c (.bool true)), none⟩]) .ret)
def laws_eqExp_b9 : HCode := (.seq (.reg [⟨some 4, .mov (.c (.bool false)), none⟩]) .ret)
def laws_eqExp_b8 : HCode := (.cond (.t 37) laws_eqExp_b9 .skip)
def laws_eqExp_b6 : HCode := (.seq (.seq (.reg [⟨some 32, .faddr 5 (.t 2), none⟩, ⟨some 33, .load false 1 (.t 32), none⟩, ⟨some 34, .faddr 5 (.t 3), none⟩, ⟨some 35, .load false 1 (.t 34), none⟩, ⟨some 36, .call (.c (.fn F.laws_eqAltS [] [])) [(.t 33), (.t 35)], none⟩, ⟨some 37, .not (.t 36), none⟩]) laws_eqExp_b8) laws_eqExp_b7)
def laws_eqExp_b11 : HCode := (.seq (.reg [⟨some 4, .mov (.c (.bool false)), none⟩]) .ret)
def laws_eqExp_b10 : HCode := (.cond (.t 31) laws_eqExp_b11 .skip)
def laws_eqExp_b5 : HCode := (.seq (.seq (.reg [⟨some 26, .faddr 4 (.t 2), none⟩, ⟨some 27, .load false 1 (.t 26), none⟩, ⟨some 28, .faddr 4 (.t 3), none⟩, ⟨some 29, .load false 1 (.t 28), none⟩, ⟨some 30, .call (.c (.fn F.laws_eqDecS [] [])) [(.t 27), (.t 29)], none⟩, ⟨some 31, .not (.t 30), none⟩]) laws_eqExp_b10) laws_eqExp_b6)
def laws_eqExp_b13 : HCode := (.seq (.reg [⟨some 4, .mov (.c (.bool false)), none⟩]) .ret)
def laws_eqExp_b12 : HCode := (.cond (.t 25) laws_eqExp_b13 .skip)
def laws_eqExp_b4 : HCode := (.seq (.seq (.reg [⟨some 20, .faddr 3 (.t 2), none⟩, ⟨some 21, .load false 1 (.t 20), none⟩, ⟨some 22, .faddr 3 (.t 3), none⟩, ⟨some 23, .load false 1 (.t 22), none⟩, ⟨some 24, .call (.c (.fn F.laws_eqExpS [] [])) [(.t 21), (.t 23)], none⟩, ⟨some 25, .not (.t 24), none⟩]) laws_eqExp_b12) laws_eqExp_b5)
def laws_eqExp_b15 : HCode := (.seq (.reg [⟨some 4, .mov (.c (.bool false)), none⟩]) .ret)
def laws_eqExp_b14 : HCode := (.cond (.t 19) laws_eqExp_b15 .skip)
def laws_eqExp_b3 : HCode := (.seq (.seq (.reg [⟨some 15, .faddr 2 (.t 2), none⟩, ⟨some 16, .load false 1 (.t 15), none⟩, ⟨some 17, .faddr 2 (.t 3), none⟩, ⟨some 18, .load false 1 (.t 17), none⟩, ⟨some 19, .bin .neq (.t 16) (.t 18), none⟩]) laws_eqExp_b14) laws_eqExp_b4)
def laws_eqExp_b17 : HCode := (.seq (.reg [⟨some 4, .mov (.c (.bool false)), none⟩]) .ret)
def laws_eqExp_b16 : HCode := (.cond (.t 14) laws_eqExp_b17 .skip)
def laws_eqExp_b2 : HCode := (.seq (.seq (.reg [⟨some 10, .faddr 1 (.t 2), none⟩, ⟨some 11, .load false 1 (.t 10), none⟩, ⟨some 12, .faddr 1 (.t 3), none⟩, ⟨some 13, .load false 1 (.t 12), none⟩, ⟨some 14, .bin .neq (.t 11) (.t 13), none⟩]) laws_eqExp_b16) laws_eqExp_b3)
def laws_eqExp_b19 : HCode := (.seq (.reg [⟨some 4, .mov (.c (.bool false)), none⟩]) .ret)
def laws_eqExp_b18 : HCode := (.cond (.t 9) laws_eqExp_b19 .skip)
def laws_eqExp_b1 : HCode := (.seq (.seq (.reg [⟨some 5, .faddr 0 (.t 2), none⟩, ⟨some 6, .load false 1 (.t 5), none⟩, ⟨some 7, .faddr 0 (.t 3), none⟩, ⟨some 8, .load false 1 (.t 7), none⟩, ⟨some 9, .bin .neq (.t 6) (.t 8), none⟩]) laws_eqExp_b18) laws_eqExp_b2)
def laws_eqExp_b0 : HCode := (.seq (.reg [⟨some 2, .box (.t 0), none⟩, ⟨some 3, .box (.t 1), none⟩, ⟨some 4, .mov (.c (.bool false)), none⟩]) laws_eqExp_b1)
def laws_eqExp : HFunc := { np := 2, ntmps := 38, results := [(4, none)], body := laws_eqExp_b0 }
def laws_eqExpS_b3 : HCode := (.seq (.reg [⟨some 4, .mov (.c (.bool true)), none⟩]) .ret)
def laws_eqExpS_b7 : HCode := (.reg [⟨some 15, .mov (.t 5), none⟩, ⟨some 16, .bin .add (.t 15) (.c (.int .i64 1)), none⟩, ⟨some 5, .mov (.t 16), none⟩])
def laws_eqExpS_b9 : HCode := (.seq (.reg [⟨some 4, .mov (.c (.bool false)), none⟩]) .ret)
def laws_eqExpS_b8 : HCode := (.cond (.t 26) laws_eqExpS_b9 .skip)
def laws_eqExpS_b6 : HCode := (.seq (.block 1 (.seq (.dreg (.q ⟨some 17, .mov (.t 0), none⟩ (.q ⟨some 18, .mov (.t 5), none⟩ (.q ⟨some 19, .iaddr 6 (.t 17) (.t 18), none⟩ (.q ⟨some 20, .load true 6 (.t 19), none⟩ (.q ⟨some 21, .mov (.t 1), none⟩ (.q ⟨some 22, .mov (.t 5), none⟩ (.q ⟨some 23, .iaddr 6 (.t 21) (.t 22), none⟩ (.q ⟨some 24, .load true 6 (.t 23), none⟩ (.l ⟨some 25, .call (.c (.fn F.laws_eqExp [] [])) [(.t 20), (.t 24)], none⟩ [] (.q ⟨some 26, .not (.t 25), none⟩ .done) .none)))))))))) laws_eqExpS_b8)) laws_eqExpS_b7)
def laws_eqExpS_b10 : HCode := (.cond (.t 14) .skip (.exit 0))
def laws_eqExpS_l5 : HCode := (.seq (.seq (.reg [⟨some 11, .mov (.t 5), none⟩, ⟨some 12, .mov (.t 0), none⟩, ⟨some 13, .len (.t 12), none⟩, ⟨some 14, .bin .lss (.t 11) (.t 13), none⟩]) laws_eqExpS_b10) laws_eqExpS_b6)
def laws_eqExpS_b4 : HCode := (.block 0 (.loop laws_eqExpS_l5))
def laws_eqExpS_b2 : HCode := (.seq (.seq (.reg [⟨some 5, .mov (.c (.int .i64 0)), none⟩]) laws_eqExpS_b4) laws_eqExpS_b3)
def laws_eqExpS_b12 : HCode := (.seq (.reg [⟨some 4, .mov (.c (.bool false)), none⟩]) .ret)
def laws_eqExpS_b11 : HCode := (.cond (.t 10) laws_eqExpS_b12 .skip)
def laws_eqExpS_b1 : HCode := (.seq (.seq (.reg [⟨some 6, .mov (.t 0), none⟩, ⟨some 7, .len (.t 6), none⟩, ⟨some 8, .mov (.t 1), none⟩, ⟨some 9, .len (.t 8), none⟩, ⟨some 10, .bin .neq (.t 7) (.t 9), none⟩]) laws_eqExpS_b11) laws_eqExpS_b2)
def laws_eqExpS_b0 : HCode := (.seq (.reg [⟨some 4, .mov (.c (.bool false)), none⟩]) laws_eqExpS_b1)
def laws_eqExpS : HFunc := { np := 2, ntmps := 27, results := [(4, none)], body := laws_eqExpS_b0 }
def laws_eqProg_b3 : HCode := (.seq (.reg [⟨some 4, .mov (.c (.bool true)), none⟩]) .ret)
def laws_eqProg_b5 : HCode := (.seq (.reg [⟨some 4, .mov (.c (.bool false)), none⟩]) .ret)
def laws_eqProg_b4 : HCode := (.cond (.t 16) laws_eqProg_b5 .skip)
def laws_eqProg_b2 : HCode := (.seq (.seq (.reg [⟨some 11, .faddr 1 (.t 2), none⟩, ⟨some 12, .load false 1 (.t 11), none⟩, ⟨some 13, .faddr 1 (.t 3), none⟩, ⟨some 14, .load false 1 (.t 13), none⟩, ⟨some 15, .call (.c (.fn F.laws_eqDecS [] [])) [(.t 12), (.t 14)], none⟩, ⟨some 16, .not (.t 15), none⟩]) laws_eqProg_b4) laws_eqProg_b3)
def laws_eqProg_b7 : HCode := (.seq (.reg [⟨some 4, .mov (.c (.bool false)), none⟩]) .ret)
def laws_eqProg_b6 : HCode := (.cond (.t 10) laws_eqProg_b7 .skip)
def laws_eqProg_b1 : HCode := (.seq (.seq (.reg [⟨some 5, .faddr 0 (.t 2), none⟩, ⟨some 6, .load false 1 (.t 5), none⟩, ⟨some 7, .faddr 0 (.t 3), none⟩, ⟨some 8, .load false 1 (.t 7), none⟩, ⟨some 9, .call (.c (.fn F.laws_eqDataS [] [])) [(.t 6), (.t 8)], none⟩, ⟨some 10, .not (.t 9), none⟩]) laws_eqProg_b6) laws_eqProg_b2)
def laws_eqProg_b0 : HCode := (.seq (.reg [⟨some 2, .box (.t 0), none⟩, ⟨some 3, .box (.t 1), none⟩, ⟨some 4, .mov (.c (.bool false)), none⟩]) laws_eqProg_b1)
def laws_eqProg : HFunc := { np := 2, ntmps := 17, results := [(4, none)], body := laws_eqProg_b0 }
def spec_SameTy_b3 : HCode := (.seq (.reg [⟨some 4, .mov (.c (.bool true)), none⟩]) .ret)
def spec_SameTy_b7 : HCode := (.reg [⟨some 39, .mov (.t 5), none⟩, ⟨some 40, .bin .add (.t 39) (.c (.int .i64 1)), none⟩, ⟨some 5, .mov (.t 40), none⟩])
def spec_SameTy_b9 : HCode := (.seq (.reg [⟨some 4, .mov (.c (.bool false)), none⟩]) .ret)
def spec_SameTy_b8 : HCode := (.cond (.t 52) spec_SameTy_b9 .skip)
def spec_SameTy_b6 : HCode := (.seq (.block 1 (.seq (.dreg (.q ⟨some 41, .faddr 3 (.t 2), none⟩ (.q ⟨some 42, .load false 1 (.t 41), none⟩ (.q ⟨some 43, .mov (.t 5), none⟩ (.q ⟨some 44, .iaddr 4 (.t 42) (.t 43), none⟩ (.q ⟨some 45, .load true 4 (.t 44), none⟩ (.q ⟨some 46, .faddr 3 (.t 3), none⟩ (.q ⟨some 47, .load false 1 (.t 46), none⟩ (.q ⟨some 48, .mov (.t 5), none⟩ (.q ⟨some 49, .iaddr 4 (.t 47) (.t 48), none⟩ (.q ⟨some 50, .load true 4 (.t 49), none⟩ (.l ⟨some 51, .call (.c (.fn F.spec_SameTy [] [])) [(.t 45), (.t 50)], none⟩ [] (.q ⟨some 52, .not (.t 51), none⟩ .done) .none)))))))))))) spec_SameTy_b8)) spec_SameTy_b7)
def spec_SameTy_b10 : HCode := (.cond (.t 38) .skip (.exit 0))
def spec_SameTy_l5 : HCode := (.seq (.seq (.reg [⟨some 34, .mov (.t 5), none⟩, ⟨some 35, .faddr 3 (.t 2), none⟩, ⟨some 36, .load false 1 (.t 35), none⟩, ⟨some 37, .len (.t 36), none⟩, ⟨some 38, .bin .lss (.t 34) (.t 37), none⟩]) spec_SameTy_b10) spec_SameTy_b6)
def spec_SameTy_b4 : HCode := (.block 0 (.loop spec_SameTy_l5))
def spec_SameTy_b2 : HCode := (.seq (.seq (.reg [⟨some 5, .mov (.c (.int .i64 0)), none⟩]) spec_SameTy_b4) spec_SameTy_b3)
def spec_SameTy_b12 : HCode := (.seq (.reg [⟨some 4, .mov (.c (.bool false)), none⟩]) .ret)
def spec_SameTy_b11 : HCode := (.cond (.t 33) spec_SameTy_b12 .skip)
def spec_SameTy_b1 : HCode := (.seq (.seq (.reg [⟨some 6, .faddr 0 (.t 2), none⟩, ⟨some 7, .load false 1 (.t 6), none⟩, ⟨some 8, .faddr 0 (.t 3), none⟩, ⟨some 9, .load false 1 (.t 8), none⟩, ⟨some 10, .bin .neq (.t 7) (.t 9), none⟩, ⟨some 11, .mov (.t 10), none⟩, ⟨some 12, .faddr 1 (.t 2), some (11, false)⟩, ⟨some 13, .load false 1 (.t 12), some (11, false)⟩, ⟨some 14, .faddr 1 (.t 3), some (11, false)⟩, ⟨some 15, .load false 1 (.t 14), some (11, false)⟩, ⟨some 16, .bin .neq (.t 13) (.t 15), some (11, false)⟩, ⟨some 17, .pick (.t 11) (.c (.bool true)) (.t 16), none⟩, ⟨some 18, .mov (.t 17), none⟩, ⟨some 19, .faddr 2 (.t 2), some (18, false)⟩, ⟨some 20, .load false 1 (.t 19), some (18, false)⟩, ⟨some 21, .faddr 2 (.t 3), some (18, false)⟩, ⟨some 22, .load false 1 (.t 21), some (18, false)⟩, ⟨some 23, .bin .neq (.t 20) (.t 22), some (18, false)⟩, ⟨some 24, .pick (.t 18) (.c (.bool true)) (.t 23), none⟩, ⟨some 25, .mov (.t 24), none⟩, ⟨some 26, .faddr 3 (.t 2), some (25, false)⟩, ⟨some 27, .load false 1 (.t 26), some (25, false)⟩, ⟨some 28, .len (.t 27), some (25, false)⟩, ⟨some 29, .faddr 3 (.t 3), some (25, false)⟩, ⟨some 30, .load false 1 (.t 29), some (25, false)⟩, ⟨some 31, .len (.t 30), some (25, false)⟩, ⟨some 32, .bin .neq (.t 28) (.t 31), some (25, false)⟩, ⟨some 33, .pick (.t 25) (.c (.bool true)) (.t 32), none⟩]) spec_SameTy_b11) spec_SameTy_b2)
def spec_SameTy_b0 : HCode := (.seq (.reg [⟨some 2, .box (.t 0), none⟩, ⟨some 3, .box (.t 1), none⟩, ⟨some 4, .mov (.c (.bool false)), none⟩]) spec_SameTy_b1)
def spec_SameTy : HFunc := { np := 2, ntmps := 53, results := [(4, none)], body := spec_SameTy_b0 }
def spec_l3SameData_b3 : HCode := (.seq (.reg [⟨some 4, .mov (.c (.bool true)), none⟩]) .ret)
def spec_l3SameData_b7 : HCode := (.reg [⟨some 26, .mov (.t 5), none⟩, ⟨some 27, .bin .add (.t 26) (.c (.int .i64 1)), none⟩, ⟨some 5, .mov (.t 27), none⟩])
def spec_l3SameData_b12 : HCode := (.reg [⟨some 67, .mov (.t 6), none⟩, ⟨some 68, .bin .add (.t 67) (.c (.int .i64 1)), none⟩, ⟨some 6, .mov (.t 68), none⟩])
def spec_l3SameData_b14 : HCode := (.seq (.reg [⟨some 4, .mov (.c (.bool false)), none⟩]) .ret)
def spec_l3SameData_b13 : HCode := (.cond (.t 88) spec_l3SameData_b14 .skip)
def spec_l3SameData_b11 : HCode := (.seq (.block 3 (.seq (.dreg (.q ⟨some 69, .faddr 1 (.t 2), none⟩ (.q ⟨some 70, .load false 1 (.t 69), none⟩ (.q ⟨some 71, .mov (.t 5), none⟩ (.q ⟨some 72, .iaddr 2 (.t 70) (.t 71), none⟩ (.q ⟨some 73, .faddr 1 (.t 72), none⟩ (.q ⟨some 74, .load false 1 (.t 73), none⟩ (.q ⟨some 75, .mov (.t 6), none⟩ (.q ⟨some 76, .iaddr 4 (.t 74) (.t 75), none⟩ (.q ⟨some 77, .load true 4 (.t 76), none⟩ (.q ⟨some 78, .faddr 1 (.t 3), none⟩ (.q ⟨some 79, .load false 1 (.t 78), none⟩ (.q ⟨some 80, .mov (.t 5), none⟩ (.q ⟨some 81, .iaddr 2 (.t 79) (.t 80), none⟩ (.q ⟨some 82, .faddr 1 (.t 81), none⟩ (.q ⟨some 83, .load false 1 (.t 82), none⟩ (.q ⟨some 84, .mov (.t 6), none⟩ (.q ⟨some 85, .iaddr 4 (.t 83) (.t 84), none⟩ (.q ⟨some 86, .load true 4 (.t 85), none⟩ (.l ⟨some 87, .call (.c (.fn F.spec_SameTy [] [])) [(.t 77), (.t 86)], none⟩ [] (.q ⟨some 88, .not (.t 87), none⟩ .done) .none)))))))))))))))))))) spec_l3SameData_b13)) spec_l3SameData_b12)
def spec_l3SameData_b15 : HCode := (.cond (.t 66) .skip (.exit 2))
def spec_l3SameData_l10 : HCode := (.seq (.seq (.reg [⟨some 58, .mov (.t 6), none⟩, ⟨some 59, .faddr 1 (.t 2), none⟩, ⟨some 60, .load false 1 (.t 59), none⟩, ⟨some 61, .mov (.t 5), none⟩, ⟨some 62, .iaddr 2 (.t 60) (.t 61), none⟩, ⟨some 63, .faddr 1 (.t 62), none⟩, ⟨some 64, .load false 1 (.t 63), none⟩, ⟨some 65, .len (.t 64), none⟩, ⟨some 66, .bin .lss (.t 58) (.t 65), none⟩]) spec_l3SameData_b15) spec_l3SameData_b11)
def spec_l3SameData_b9 : HCode := (.block 2 (.loop spec_l3SameData_l10))
def spec_l3SameData_b8 : HCode := (.seq (.reg [⟨some 6, .mov (.c (.int .i64 0)), none⟩]) spec_l3SameData_b9)
def spec_l3SameData_b17 : HCode := (.seq (.reg [⟨some 4, .mov (.c (.bool false)), none⟩]) .ret)
def spec_l3SameData_b16 : HCode := (.cond (.t 57) spec_l3SameData_b17 .skip)
def spec_l3SameData_b6 : HCode := (.seq (.block 1 (.seq (.seq (.dreg (.q ⟨some 28, .faddr 1 (.t 2), none⟩ (.q ⟨some 29, .load false 1 (.t 28), none⟩ (.q ⟨some 30, .mov (.t 5), none⟩ (.q ⟨some 31, .iaddr 2 (.t 29) (.t 30), none⟩ (.q ⟨some 32, .faddr 0 (.t 31), none⟩ (.q ⟨some 33, .load false 1 (.t 32), none⟩ (.q ⟨some 34, .faddr 1 (.t 3), none⟩ (.q ⟨some 35, .load false 1 (.t 34), none⟩ (.q ⟨some 36, .mov (.t 5), none⟩ (.q ⟨some 37, .iaddr 2 (.t 35) (.t 36), none⟩ (.q ⟨some 38, .faddr 0 (.t 37), none⟩ (.q ⟨some 39, .load false 1 (.t 38), none⟩ (.q ⟨some 40, .bin .neq (.t 33) (.t 39), none⟩ (.q ⟨some 41, .mov (.t 40), none⟩ (.q ⟨some 42, .faddr 1 (.t 2), some (41, false)⟩ (.q ⟨some 43, .load false 1 (.t 42), some (41, false)⟩ (.q ⟨some 44, .mov (.t 5), some (41, false)⟩ (.q ⟨some 45, .iaddr 2 (.t 43) (.t 44), some (41, false)⟩ (.q ⟨some 46, .faddr 1 (.t 45), some (41, false)⟩ (.q ⟨some 47, .load false 1 (.t 46), some (41, false)⟩ (.q ⟨some 48, .len (.t 47), some (41, false)⟩ (.q ⟨some 49, .faddr 1 (.t 3), some (41, false)⟩ (.q ⟨some 50, .load false 1 (.t 49), some (41, false)⟩ (.q ⟨some 51, .mov (.t 5), some (41, false)⟩ (.q ⟨some 52, .iaddr 2 (.t 50) (.t 51), some (41, false)⟩ (.q ⟨some 53, .faddr 1 (.t 52), some (41, false)⟩ (.q ⟨some 54, .load false 1 (.t 53), some (41, false)⟩ (.q ⟨some 55, .len (.t 54), some (41, false)⟩ (.q ⟨some 56, .bin .neq (.t 48) (.t 55), some (41, false)⟩ (.q ⟨some 57, .pick (.t 41) (.c (.bool true)) (.t 56), none⟩ .done))))))))))))))))))))))))))))))) spec_l3SameData_b16) spec_l3SameData_b8)) spec_l3SameData_b7)
def spec_l3SameData_b18 : HCode := (.cond (.t 25) .skip (.exit 0))
def spec_l3SameData_l5 : HCode := (.seq (.seq (.reg [⟨some 21, .mov (.t 5), none⟩, ⟨some 22, .faddr 1 (.t 2), none⟩, ⟨some 23, .load false 1 (.t 22), none⟩, ⟨some 24, .len (.t 23), none⟩, ⟨some 25, .bin .lss (.t 21) (.t 24), none⟩]) spec_l3SameData_b18) spec_l3SameData_b6)
def spec_l3SameData_b4 : HCode := (.block 0 (.loop spec_l3SameData_l5))
def spec_l3SameData_b2 : HCode := (.seq (.seq (.reg [⟨some 5, .mov (.c (.int .i64 0)), none⟩]) spec_l3SameData_b4) spec_l3SameData_b3)
def spec_l3SameData_b20 : HCode := (.seq (.reg [⟨some 4, .mov (.c (.bool false)), none⟩]) .ret)
def spec_l3SameData_b19 : HCode := (.cond (.t 20) spec_l3SameData_b20 .skip)
def spec_l3SameData_b1 : HCode := (.seq (.seq (.reg [⟨some 7, .faddr 0 (.t 2), none⟩, ⟨some 8, .load false 1 (.t 7), none⟩, ⟨some 9, .faddr 0 (.t 3), none⟩, ⟨some 10, .load false 1 (.t 9), none⟩, ⟨some 11, .bin .neq (.t 8) (.t 10), none⟩, ⟨some 12, .mov (.t 11), none⟩, ⟨some 13, .faddr 1 (.t 2), some (12, false)⟩, ⟨some 14, .load false 1 (.t 13), some (12, false)⟩, ⟨some 15, .len (.t 14), some (12, false)⟩, ⟨some 16, .faddr 1 (.t 3), some (12, false)⟩, ⟨some 17, .load false 1 (.t 16), some (12, false)⟩, ⟨some 18, .len (.t 17), some (12, false)⟩, ⟨some 19, .bin .neq (.t 15) (.t 18), some (12, false)⟩, ⟨some 20, .pick (.t 12) (.c (.bool true)) (.t 19), none⟩]) spec_l3SameData_b19) spec_l3SameData_b2)
def spec_l3SameData_b0 : HCode := (.seq (.reg [⟨some 2, .box (.t 0), none⟩, ⟨some 3, .box (.t 1), none⟩, ⟨some 4, .mov (.c (.bool false)), none⟩]) spec_l3SameData_b1)
def spec_l3SameData : HFunc := { np := 2, ntmps := 89, results := [(4, none)], body := spec_l3SameData_b0 }
def spec_l3SameTexts_b3 : HCode := (.seq (.reg [⟨some 4, .mov (.c (.bool true)), none⟩]) .ret)
def spec_l3SameTexts_b7 : HCode := (.reg [⟨some 15, .mov (.t 5), none⟩, ⟨some 16, .bin .add (.t 15) (.c (.int .i64 1)), none⟩, ⟨some 5, .mov (.t 16), none⟩])
def spec_l3SameTexts_b9 : HCode := (.seq (.reg [⟨some 4, .mov (.c (.bool false)), none⟩]) .ret)
def spec_l3SameTexts_b8 : HCode := (.cond (.t 25) spec_l3SameTexts_b9 .skip)
def spec_l3SameTexts_b6 : HCode := (.seq (.block 1 (.seq (.dreg (.q ⟨some 17, .mov (.t 0), none⟩ (.q ⟨some 18, .mov (.t 5), none⟩ (.q ⟨some 19, .iaddr 1 (.t 17) (.t 18), none⟩ (.q ⟨some 20, .load false 1 (.t 19), none⟩ (.q ⟨some 21, .mov (.t 1), none⟩ (.q ⟨some 22, .mov (.t 5), none⟩ (.q ⟨some 23, .iaddr 1 (.t 21) (.t 22), none⟩ (.q ⟨some 24, .load false 1 (.t 23), none⟩ (.q ⟨some 25, .bin .neq (.t 20) (.t 24), none⟩ .done)))))))))) spec_l3SameTexts_b8)) spec_l3SameTexts_b7)
def spec_l3SameTexts_b10 : HCode := (.cond (.t 14) .skip (.exit 0))
def spec_l3SameTexts_l5 : HCode := (.seq (.seq (.reg [⟨some 11, .mov (.t 5), none⟩, ⟨some 12, .mov (.t 0), none⟩, ⟨some 13, .len (.t 12), none⟩, ⟨some 14, .bin .lss (.t 11) (.t 13), none⟩]) spec_l3SameTexts_b10) spec_l3SameTexts_b6)
def spec_l3SameTexts_b4 : HCode := (.block 0 (.loop spec_l3SameTexts_l5))
def spec_l3SameTexts_b2 : HCode := (.seq (.seq (.reg [⟨some 5, .mov (.c (.int .i64 0)), none⟩]) spec_l3SameTexts_b4) spec_l3SameTexts_b3)
def spec_l3SameTexts_b12 : HCode := (.seq (.reg [⟨some 4, .mov (.c (.bool false)), none⟩]) .ret)
def spec_l3SameTexts_b11 : HCode := (.cond (.t 10) spec_l3SameTexts_b12 .skip)
def spec_l3SameTexts_b1 : HCode := (.seq (.seq (.reg [⟨some 6, .mov (.t 0), none⟩, ⟨some 7, .len (.t 6), none⟩, ⟨some 8, .mov (.t 1), none⟩, ⟨some 9, .len (.t 8), none⟩, ⟨some 10, .bin .neq (.t 7) (.t 9), none⟩]) spec_l3SameTexts_b11) spec_l3SameTexts_b2)
def spec_l3SameTexts_b0 : HCode := (.seq (.reg [⟨some 4, .mov (.c (.bool false)), none⟩]) spec_l3SameTexts_b1)
def spec_l3SameTexts : HFunc := { np := 2, ntmps := 26, results := [(4, none)], body := spec_l3SameTexts_b0 }
def spec_SameExp_b4 : HCode := (.seq (.reg [⟨some 4, .mov (.c (.bool true)), none⟩]) .ret)
def spec_SameExp_b8 : HCode := (.reg [⟨some 76, .mov (.t 6), none⟩, ⟨some 77, .bin .add (.t 76) (.c (.int .i64 1)), none⟩, ⟨some 6, .mov (.t 77), none⟩])
def spec_SameExp_b10 : HCode := (.seq (.reg [⟨some 4, .mov (.c (.bool false)), none⟩]) .ret)
def spec_SameExp_b9 : HCode := (.cond (.t 122) spec_SameExp_b10 .skip)
def spec_SameExp_b7 : HCode := (.seq (.block 3 (.seq (.dreg (.q ⟨some 78, .faddr 5 (.t 2), none⟩ (.q ⟨some 79, .load false 1 (.t 78), none⟩ (.q ⟨some 80, .mov (.t 6), none⟩ (.q ⟨some 81, .iaddr 8 (.t 79) (.t 80), none⟩ (.q ⟨some 82, .faddr 0 (.t 81), none⟩ (.q ⟨some 83, .load false 1 (.t 82), none⟩ (.q ⟨some 84, .faddr 5 (.t 3), none⟩ (.q ⟨some 85, .load false 1 (.t 84), none⟩ (.q ⟨some 86, .mov (.t 6), none⟩ (.q ⟨some 87, .iaddr 8 (.t 85) (.t 86), none⟩ (.q ⟨some 88, .faddr 0 (.t 87), none⟩ (.q ⟨some 89, .load false 1 (.t 88), none⟩ (.q ⟨some 90, .bin .neq (.t 83) (.t 89), none⟩ (.q ⟨some 91, .mov (.t 90), none⟩ (.q ⟨some 92, .faddr 5 (.t 2), some (91, false)⟩ (.q ⟨some 93, .load false 1 (.t 92), some (91, false)⟩ (.q ⟨some 94, .mov (.t 6), some (91, false)⟩ (.q ⟨some 95, .iaddr 8 (.t 93) (.t 94), some (91, false)⟩ (.q ⟨some 96, .faddr 1 (.t 95), some (91, false)⟩ (.q ⟨some 97, .load false 1 (.t 96), some (91, false)⟩ (.q ⟨some 98, .faddr 5 (.t 3), some (91, false)⟩ (.q ⟨some 99, .load false 1 (.t 98), some (91, false)⟩ (.q ⟨some 100, .mov (.t 6), some (91, false)⟩ (.q ⟨some 101, .iaddr 8 (.t 99) (.t 100), some (91, false)⟩ (.q ⟨some 102, .faddr 1 (.t 101), some (91, false)⟩ (.q ⟨some 103, .load false 1 (.t 102), some (91, false)⟩ (.l ⟨some 104, .call (.c (.fn F.spec_l3SameTexts [] [])) [(.t 97), (.t 103)], some (91, false)⟩ [] (.q ⟨some 105, .not (.t 104), some (91, false)⟩ (.q ⟨some 106, .pick (.t 91) (.c (.bool true)) (.t 105), none⟩ (.q ⟨some 107, .mov (.t 106), none⟩ (.q ⟨some 108, .faddr 5 (.t 2), some (107, false)⟩ (.q ⟨some 109, .load false 1 (.t 108), some (107, false)⟩ (.q ⟨some 110, .mov (.t 6), some (107, false)⟩ (.q ⟨some 111, .iaddr 8 (.t 109) (.t 110), some (107, false)⟩ (.q ⟨some 112, .faddr 2 (.t 111), some (107, false)⟩ (.q ⟨some 113, .load true 6 (.t 112), some (107, false)⟩ (.q ⟨some 114, .faddr 5 (.t 3), some (107, false)⟩ (.q ⟨some 115, .load false 1 (.t 114), some (107, false)⟩ (.q ⟨some 116, .mov (.t 6), some (107, false)⟩ (.q ⟨some 117, .iaddr 8 (.t 115) (.t 116), some (107, false)⟩ (.q ⟨some 118, .faddr 2 (.t 117), some (107, false)⟩ (.q ⟨some 119, .load true 6 (.t 118), some (107, false)⟩ (.l ⟨some 120, .call (.c (.fn F.spec_SameExp [] [])) [(.t 113), (.t 119)], some (107, false)⟩ [] (.q ⟨some 121, .not (.t 120), some (107, false)⟩ (.q ⟨some 122, .pick (.t 107) (.c (.bool true)) (.t 121), none⟩ .done)) .none)))))))))))))))) .none)))))))))))))))))))))))))))) spec_SameExp_b9)) spec_SameExp_b8)
def spec_SameExp_b11 : HCode := (.cond (.t 75) .skip (.exit 2))
def spec_SameExp_l6 : HCode := (.seq (.seq (.reg [⟨some 71, .mov (.t 6), none⟩, ⟨some 72, .faddr 5 (.t 2), none⟩, ⟨some 73, .load false 1 (.t 72), none⟩, ⟨some 74, .len (.t 73), none⟩, ⟨some 75, .bin .lss (.t 71) (.t 74), none⟩]) spec_SameExp_b11) spec_SameExp_b7)
def spec_SameExp_b5 : HCode := (.block 2 (.loop spec_SameExp_l6))
def spec_SameExp_b3 : HCode := (.seq (.seq (.reg [⟨some 6, .mov (.c (.int .i64 0)), none⟩]) spec_SameExp_b5) spec_SameExp_b4)
def spec_SameExp_b15 : HCode := (.reg [⟨some 57, .mov (.t 5), none⟩, ⟨some 58, .bin .add (.t 57) (.c (.int .i64 1)), none⟩, ⟨some 5, .mov (.t 58), none⟩])
def spec_SameExp_b17 : HCode := (.seq (.reg [⟨some 4, .mov (.c (.bool false)), none⟩]) .ret)
def spec_SameExp_b16 : HCode := (.cond (.t 70) spec_SameExp_b17 .skip)
def spec_SameExp_b14 : HCode := (.seq (.block 1 (.seq (.dreg (.q ⟨some 59, .faddr 3 (.t 2), none⟩ (.q ⟨some 60, .load false 1 (.t 59), none⟩ (.q ⟨some 61, .mov (.t 5), none⟩ (.q ⟨some 62, .iaddr 6 (.t 60) (.t 61), none⟩ (.q ⟨some 63, .load true 6 (.t 62), none⟩ (.q ⟨some 64, .faddr 3 (.t 3), none⟩ (.q ⟨some 65, .load false 1 (.t 64), none⟩ (.q ⟨some 66, .mov (.t 5), none⟩ (.q ⟨some 67, .iaddr 6 (.t 65) (.t 66), none⟩ (.q ⟨some 68, .load true 6 (.t 67), none⟩ (.l ⟨some 69, .call (.c (.fn F.spec_SameExp [] [])) [(.t 63), (.t 68)], none⟩ [] (.q ⟨some 70, .not (.t 69), none⟩ .done) .none)))))))))))) spec_SameExp_b16)) spec_SameExp_b15)
def spec_SameExp_b18 : HCode := (.cond (.t 56) .skip (.exit 0))
def spec_SameExp_l13 : HCode := (.seq (.seq (.reg [⟨some 52, .mov (.t 5), none⟩, ⟨some 53, .faddr 3 (.t 2), none⟩, ⟨some 54, .load false 1 (.t 53), none⟩, ⟨some 55, .len (.t 54), none⟩, ⟨some 56, .bin .lss (.t 52) (.t 55), none⟩]) spec_SameExp_b18) spec_SameExp_b14)
def spec_SameExp_b12 : HCode := (.block 0 (.loop spec_SameExp_l13))
def spec_SameExp_b2 : HCode := (.seq (.seq (.reg [⟨some 5, .mov (.c (.int .i64 0)), none⟩]) spec_SameExp_b12) spec_SameExp_b3)
def spec_SameExp_b20 : HCode := (.seq (.reg [⟨some 4, .mov (.c (.bool false)), none⟩]) .ret)
def spec_SameExp_b19 : HCode := (.cond (.t 51) spec_SameExp_b20 .skip)
def spec_SameExp_b1 : HCode := (.seq (.seq (.reg [⟨some 7, .faddr 0 (.t 2), none⟩, ⟨some 8, .load false 1 (.t 7), none⟩, ⟨some 9, .faddr 0 (.t 3), none⟩, ⟨some 10, .load false 1 (.t 9), none⟩, ⟨some 11, .bin .neq (.t 8) (.t 10), none⟩, ⟨some 12, .mov (.t 11), none⟩, ⟨some 13, .faddr 1 (.t 2), some (12, false)⟩, ⟨some 14, .load false 1 (.t 13), some (12, false)⟩, ⟨some 15, .faddr 1 (.t 3), some (12, false)⟩, ⟨some 16, .load false 1 (.t 15), some (12, false)⟩, ⟨some 17, .bin .neq (.t 14) (.t 16), some (12, false)⟩, ⟨some 18, .pick (.t 12) (.c (.bool true)) (.t 17), none⟩, ⟨some 19, .mov (.t 18), none⟩, ⟨some 20, .faddr 2 (.t 2), some (19, false)⟩, ⟨some 21, .load false 1 (.t 20), some (19, false)⟩, ⟨some 22, .faddr 2 (.t 3), some (19, false)⟩, ⟨some 23, .load false 1 (.t 22), some (19, false)⟩, ⟨some 24, .bin .neq (.t 21) (.t 23), some (19, false)⟩, ⟨some 25, .pick (.t 19) (.c (.bool true)) (.t 24), none⟩, ⟨some 26, .mov (.t 25), none⟩, ⟨some 27, .faddr 3 (.t 2), some (26, false)⟩, ⟨some 28, .load false 1 (.t 27), some (26, false)⟩, ⟨some 29, .len (.t 28), some (26, false)⟩, ⟨some 30, .faddr 3 (.t 3), some (26, false)⟩, ⟨some 31, .load false 1 (.t 30), some (26, false)⟩, ⟨some 32, .len (.t 31), some (26, false)⟩, ⟨some 33, .bin .neq (.t 29) (.t 32), some (26, false)⟩, ⟨some 34, .pick (.t 26) (.c (.bool true)) (.t 33), none⟩, ⟨some 35, .mov (.t 34), none⟩, ⟨some 36, .faddr 5 (.t 2), some (35, false)⟩, ⟨some 37, .load false 1 (.t 36), some (35, false)⟩, ⟨some 38, .len (.t 37), some (35, false)⟩, ⟨some 39, .faddr 5 (.t 3), some (35, false)⟩, ⟨some 40, .load false 1 (.t 39), some (35, false)⟩, ⟨some 41, .len (.t 40), some (35, false)⟩, ⟨some 42, .bin .neq (.t 38) (.t 41), some (35, false)⟩, ⟨some 43, .pick (.t 35) (.c (.bool true)) (.t 42), none⟩, ⟨some 44, .mov (.t 43), none⟩, ⟨some 45, .faddr 4 (.t 2), some (44, false)⟩, ⟨some 46, .load false 1 (.t 45), some (44, false)⟩, ⟨some 47, .faddr 4 (.t 3), some (44, false)⟩, ⟨some 48, .load false 1 (.t 47), some (44, false)⟩, ⟨some 49, .call (.c (.fn F.spec_l3SameDecs [] [])) [(.t 46), (.t 48)], some (44, false)⟩, ⟨some 50, .not (.t 49), some (44, false)⟩, ⟨some 51, .pick (.t 44) (.c (.bool true)) (.t 50), none⟩]) spec_SameExp_b19) spec_SameExp_b2)
def spec_SameExp_b0 : HCode := (.seq (.reg [⟨some 2, .box (.t 0), none⟩, ⟨some 3, .box (.t 1), none⟩, ⟨some 4, .mov (.c (.bool false)), none⟩]) spec_SameExp_b1)
def spec_SameExp : HFunc := { np := 2, ntmps := 123, results := [(4, none)], body := spec_SameExp_b0 }
def spec_l3SameDecs_b3 : HCode := (.seq (.reg [⟨some 4, .mov (.c (.bool true)), none⟩]) .ret)
def spec_l3SameDecs_b7 : HCode := (.reg [⟨some 15, .mov (.t 5), none⟩, ⟨some 16, .bin .add (.t 15) (.c (.int .i64 1)), none⟩, ⟨some 5, .mov (.t 16), none⟩])
def spec_l3SameDecs_b9 : HCode := (.seq (.reg [⟨some 4, .mov (.c (.bool false)), none⟩]) .ret)
def spec_l3SameDecs_b8 : HCode := (.cond (.t 69) spec_l3SameDecs_b9 .skip)
def spec_l3SameDecs_b6 : HCode := (.seq (.block 1 (.seq (.dreg (.q ⟨some 17, .mov (.t 0), none⟩ (.q ⟨some 18, .mov (.t 5), none⟩ (.q ⟨some 19, .iaddr 9 (.t 17) (.t 18), none⟩ (.q ⟨some 20, .faddr 0 (.t 19), none⟩ (.q ⟨some 21, .load false 1 (.t 20), none⟩ (.q ⟨some 22, .mov (.t 1), none⟩ (.q ⟨some 23, .mov (.t 5), none⟩ (.q ⟨some 24, .iaddr 9 (.t 22) (.t 23), none⟩ (.q ⟨some 25, .faddr 0 (.t 24), none⟩ (.q ⟨some 26, .load false 1 (.t 25), none⟩ (.q ⟨some 27, .bin .neq (.t 21) (.t 26), none⟩ (.q ⟨some 28, .mov (.t 27), none⟩ (.q ⟨some 29, .mov (.t 0), some (28, false)⟩ (.q ⟨some 30, .mov (.t 5), some (28, false)⟩ (.q ⟨some 31, .iaddr 9 (.t 29) (.t 30), some (28, false)⟩ (.q ⟨some 32, .faddr 1 (.t 31), some (28, false)⟩ (.q ⟨some 33, .load false 1 (.t 32), some (28, false)⟩ (.q ⟨some 34, .mov (.t 1), some (28, false)⟩ (.q ⟨some 35, .mov (.t 5), some (28, false)⟩ (.q ⟨some 36, .iaddr 9 (.t 34) (.t 35), some (28, false)⟩ (.q ⟨some 37, .faddr 1 (.t 36), some (28, false)⟩ (.q ⟨some 38, .load false 1 (.t 37), some (28, false)⟩ (.l ⟨some 39, .call (.c (.fn F.spec_l3SameTexts [] [])) [(.t 33), (.t 38)], some (28, false)⟩ [] (.q ⟨some 40, .not (.t 39), some (28, false)⟩ (.q ⟨some 41, .pick (.t 28) (.c (.bool true)) (.t 40), none⟩ (.q ⟨some 42, .mov (.t 41), none⟩ (.q ⟨some 43, .mov (.t 0), some (42, false)⟩ (.q ⟨some 44, .mov (.t 5), some (42, false)⟩ (.q ⟨some 45, .iaddr 9 (.t 43) (.t 44), some (42, false)⟩ (.q ⟨some 46, .faddr 2 (.t 45), some (42, false)⟩ (.q ⟨some 47, .load true 6 (.t 46), some (42, false)⟩ (.q ⟨some 48, .mov (.t 1), some (42, false)⟩ (.q ⟨some 49, .mov (.t 5), some (42, false)⟩ (.q ⟨some 50, .iaddr 9 (.t 48) (.t 49), some (42, false)⟩ (.q ⟨some 51, .faddr 2 (.t 50), some (42, false)⟩ (.q ⟨some 52, .load true 6 (.t 51), some (42, false)⟩ (.l ⟨some 53, .call (.c (.fn F.spec_SameExp [] [])) [(.t 47), (.t 52)], some (42, false)⟩ [] (.q ⟨some 54, .not (.t 53), some (42, false)⟩ (.q ⟨some 55, .pick (.t 42) (.c (.bool true)) (.t 54), none⟩ (.q ⟨some 56, .mov (.t 55), none⟩ (.q ⟨some 57, .mov (.t 0), some (56, false)⟩ (.q ⟨some 58, .mov (.t 5), some (56, false)⟩ (.q ⟨some 59, .iaddr 9 (.t 57) (.t 58), some (56, false)⟩ (.q ⟨some 60, .faddr 8 (.t 59), some (56, false)⟩ (.q ⟨some 61, .load false 1 (.t 60), some (56, false)⟩ (.q ⟨some 62, .mov (.t 1), some (56, false)⟩ (.q ⟨some 63, .mov (.t 5), some (56, false)⟩ (.q ⟨some 64, .iaddr 9 (.t 62) (.t 63), some (56, false)⟩ (.q ⟨some 65, .faddr 8 (.t 64), some (56, false)⟩ (.q ⟨some 66, .load false 1 (.t 65), some (56, false)⟩ (.l ⟨some 67, .call (.c (.fn F.spec_l3SameDecs [] [])) [(.t 61), (.t 66)], some (56, false)⟩ [] (.q ⟨some 68, .not (.t 67), some (56, false)⟩ (.q ⟨some 69, .pick (.t 56) (.c (.bool true)) (.t 68), none⟩ .done)) .none)))))))))))))) .none)))))))))))))) .none)))))))))))))))))))))))) spec_l3SameDecs_b8)) spec_l3SameDecs_b7)
def spec_l3SameDecs_b10 : HCode := (.cond (.t 14) .skip (.exit 0))
def spec_l3SameDecs_l5 : HCode := (.seq (.seq (.reg [⟨some 11, .mov (.t 5), none⟩, ⟨some 12, .mov (.t 0), none⟩, ⟨some 13, .len (.t 12), none⟩, ⟨some 14, .bin .lss (.t 11) (.t 13), none⟩]) spec_l3SameDecs_b10) spec_l3SameDecs_b6)
def spec_l3SameDecs_b4 : HCode := (.block 0 (.loop spec_l3SameDecs_l5))
def spec_l3SameDecs_b2 : HCode := (.seq (.seq (.reg [⟨some 5, .mov (.c (.int .i64 0)), none⟩]) spec_l3SameDecs_b4) spec_l3SameDecs_b3)
def spec_l3SameDecs_b12 : HCode := (.seq (.reg [⟨some 4, .mov (.c (.bool false)), none⟩]) .ret)
def spec_l3SameDecs_b11 : HCode := (.cond (.t 10) spec_l3SameDecs_b12 .skip)
def spec_l3SameDecs_b1 : HCode := (.seq (.seq (.reg [⟨some 6, .mov (.t 0), none⟩, ⟨some 7, .len (.t 6), none⟩, ⟨some 8, .mov (.t 1), none⟩, ⟨some 9, .len (.t 8), none⟩, ⟨some 10, .bin .neq (.t 7) (.t 9), none⟩]) spec_l3SameDecs_b11) spec_l3SameDecs_b2)
def spec_l3SameDecs_b0 : HCode := (.seq (.reg [⟨some 4, .mov (.c (.bool false)), none⟩]) spec_l3SameDecs_b1)
def spec_l3SameDecs : HFunc := { np := 2, ntmps := 70, results := [(4, none)], body := spec_l3SameDecs_b0 }
def spec_SameProg_b3 : HCode := (.seq (.reg [⟨some 32, .faddr 1 (.t 2), none⟩, ⟨some 33, .load false 1 (.t 32), none⟩, ⟨some 34, .faddr 1 (.t 3), none⟩, ⟨some 35, .load false 1 (.t 34), none⟩, ⟨some 36, .call (.c (.fn F.spec_l3SameDecs [] [])) [(.t 33), (.t 35)], none⟩, ⟨some 4, .mov (.t 36), none⟩]) .ret)
def spec_SameProg_b7 : HCode := (.reg [⟨some 18, .mov (.t 5), none⟩, ⟨some 19, .bin .add (.t 18) (.c (.int .i64 1)), none⟩, ⟨some 5, .mov (.t 19), none⟩])
def spec_SameProg_b9 : HCode := (.seq (.reg [⟨some 4, .mov (.c (.bool false)), none⟩]) .ret)
def spec_SameProg_b8 : HCode := (.cond (.t 31) spec_SameProg_b9 .skip)
def spec_SameProg_b6 : HCode := (.seq (.block 1 (.seq (.dreg (.q ⟨some 20, .faddr 0 (.t 2), none⟩ (.q ⟨some 21, .load false 1 (.t 20), none⟩ (.q ⟨some 22, .mov (.t 5), none⟩ (.q ⟨some 23, .iaddr 2 (.t 21) (.t 22), none⟩ (.q ⟨some 24, .load true 2 (.t 23), none⟩ (.q ⟨some 25, .faddr 0 (.t 3), none⟩ (.q ⟨some 26, .load false 1 (.t 25), none⟩ (.q ⟨some 27, .mov (.t 5), none⟩ (.q ⟨some 28, .iaddr 2 (.t 26) (.t 27), none⟩ (.q ⟨some 29, .load true 2 (.t 28), none⟩ (.l ⟨some 30, .call (.c (.fn F.spec_l3SameData [] [])) [(.t 24), (.t 29)], none⟩ [] (.q ⟨some 31, .not (.t 30), none⟩ .done) .none)))))))))))) spec_SameProg_b8)) spec_SameProg_b7)
def spec_SameProg_b10 : HCode := (.cond (.t 17) .skip (.exit 0))
def spec_SameProg_l5 : HCode := (.seq (.seq (.reg [⟨some 13, .mov (.t 5), none⟩, ⟨some 14, .faddr 0 (.t 2), none⟩, ⟨some 15, .load false 1 (.t 14), none⟩, ⟨some 16, .len (.t 15), none⟩, ⟨some 17, .bin .lss (.t 13) (.t 16), none⟩]) spec_SameProg_b10) spec_SameProg_b6)
def spec_SameProg_b4 : HCode := (.block 0 (.loop spec_SameProg_l5))
def spec_SameProg_b2 : HCode := (.seq (.seq (.reg [⟨some 5, .mov (.c (.int .i64 0)), none⟩]) spec_SameProg_b4) spec_SameProg_b3)
def spec_SameProg_b12 : HCode := (.seq (.reg [⟨some 4, .mov (.c (.bool false)), none⟩]) .ret)
def spec_SameProg_b11 : HCode := (.cond (.t 12) spec_SameProg_b12 .skip)
def spec_SameProg_b1 : HCode := (.seq (.seq (.reg [⟨some 6, .faddr 0 (.t 2), none⟩, ⟨some 7, .load false 1 (.t 6), none⟩, ⟨some 8, .len (.t 7), none⟩, ⟨some 9, .faddr 0 (.t 3), none⟩, ⟨some 10, .load false 1 (.t 9), none⟩, ⟨some 11, .len (.t 10), none⟩, ⟨some 12, .bin .neq (.t 8) (.t 11), none⟩]) spec_SameProg_b11) spec_SameProg_b2)
def spec_SameProg_b0 : HCode := (.seq (.reg [⟨some 2, .box (.t 0), none⟩, ⟨some 3, .box (.t 1), none⟩, ⟨some 4, .mov (.c (.bool false)), none⟩]) spec_SameProg_b1)
def spec_SameProg : HFunc := { np := 2, ntmps := 37, results := [(4, none)], body := spec_SameProg_b0 }
def laws_toTy_b6 : HCode := (.seq (.reg [⟨some 17, .load true 4 (.t 3), none⟩, ⟨none, .store 4 (.t 2) (.t 17), none⟩]) .ret)
def laws_toTy_b5 : HCode := (.seq (.reg [⟨some 13, .faddr 3 (.t 1), none⟩, ⟨some 14, .load false 1 (.t 13), none⟩, ⟨some 15, .call (.c (.fn F.laws_toTyS [] [])) [(.t 14)], none⟩, ⟨some 16, .faddr 3 (.t 3), none⟩, ⟨none, .store 1 (.t 16) (.t 15), none⟩]) laws_toTy_b6)
def laws_toTy_b4 : HCode := (.seq (.reg [⟨some 10, .faddr 2 (.t 1), none⟩, ⟨some 11, .load false 1 (.t 10), none⟩, ⟨some 12, .faddr 2 (.t 3), none⟩, ⟨none, .store 1 (.t 12) (.t 11), none⟩]) laws_toTy_b5)
def laws_toTy_b3 : HCode := (.seq (.reg [⟨some 7, .faddr 1 (.t 1), none⟩, ⟨some 8, .load false 1 (.t 7), none⟩, ⟨some 9, .faddr 1 (.t 3), none⟩, ⟨none, .store 1 (.t 9) (.t 8), none⟩]) laws_toTy_b4)
def laws_toTy_b2 : HCode := (.seq (.reg [⟨some 4, .faddr 0 (.t 1), none⟩, ⟨some 5, .load false 1 (.t 4), none⟩, ⟨some 6, .faddr 0 (.t 3), none⟩, ⟨none, .store 1 (.t 6) (.t 5), none⟩]) laws_toTy_b3)
def laws_toTy_b1 : HCode := (.seq (.reg [⟨some 3, .alloc (.agg [(.int .i64 0), (.str ⟨⟨[]⟩⟩), (.int .i64 0), .nils]), none⟩]) laws_toTy_b2)
def laws_toTy_b0 : HCode := (.seq (.reg [⟨some 1, .box (.t 0), none⟩, ⟨some 2, .alloc (.agg [(.int .i64 0), (.str ⟨⟨[]⟩⟩), (.int .i64 0), .nils]), none⟩]) laws_toTy_b1)
def laws_toTy : HFunc := { np := 1, ntmps := 18, results := [(2, some (true, 4))], body := laws_toTy_b0 }
def laws_toTyS_b3 : HCode := (.seq (.reg [⟨some 22, .mov (.t 3), none⟩, ⟨some 2, .mov (.t 22), none⟩]) .ret)
def laws_toTyS_b7 : HCode := (.reg [⟨some 12, .mov (.t 4), none⟩, ⟨some 13, .bin .add (.t 12) (.c (.int .i64 1)), none⟩, ⟨some 4, .mov (.t 13), none⟩])
def laws_toTyS_b6 : HCode := (.seq (.block 1 (.reg [⟨some 14, .mov (.t 3), none⟩, ⟨some 15, .mov (.t 4), none⟩, ⟨some 16, .mov (.t 0), none⟩, ⟨some 17, .mov (.t 4), none⟩, ⟨some 18, .iaddr 4 (.t 16) (.t 17), none⟩, ⟨some 19, .load true 4 (.t 18), none⟩, ⟨some 20, .call (.c (.fn F.laws_toTy [] [])) [(.t 19)], none⟩, ⟨some 21, .iaddr 4 (.t 14) (.t 15), none⟩, ⟨none, .store 4 (.t 21) (.t 20), none⟩])) laws_toTyS_b7)
def laws_toTyS_b8 : HCode := (.cond (.t 11) .skip (.exit 0))
def laws_toTyS_l5 : HCode := (.seq (.seq (.reg [⟨some 8, .mov (.t 4), none⟩, ⟨some 9, .mov (.t 0), none⟩, ⟨some 10, .len (.t 9), none⟩, ⟨some 11, .bin .lss (.t 8) (.t 10), none⟩]) laws_toTyS_b8) laws_toTyS_b6)
def laws_toTyS_b4 : HCode := (.block 0 (.loop laws_toTyS_l5))
def laws_toTyS_b2 : HCode := (.seq (.seq (.reg [⟨some 4, .mov (.c (.int .i64 0)), none⟩]) laws_toTyS_b4) laws_toTyS_b3)
def laws_toTyS_b1 : HCode := (.seq (.reg [⟨some 5, .mov (.t 0), none⟩, ⟨some 6, .len (.t 5), none⟩, ⟨some 7, .mkslice 4 56 (.agg [(.int .i64 0), (.str ⟨⟨[]⟩⟩), (.int .i64 0), .nils]) (.t 6) (.t 6), none⟩, ⟨some 3, .mov (.t 7), none⟩]) laws_toTyS_b2)
def laws_toTyS_b0 : HCode := (.seq (.reg [⟨some 2, .mov (.c .nils), none⟩]) laws_toTyS_b1)
def laws_toTyS : HFunc := { np := 1, ntmps := 23, results := [(2, none)], body := laws_toTyS_b0 }
def laws_toCon_b4 : HCode := (.seq (.reg [⟨some 11, .load true 2 (.t 3), none⟩, ⟨none, .store 2 (.t 2) (.t 11), none⟩]) .ret)
def laws_toCon_b3 : HCode := (.seq (.reg [⟨some 7, .faddr 1 (.t 1), none⟩, ⟨some 8, .load false 1 (.t 7), none⟩, ⟨some 9, .call (.c (.fn F.laws_toTyS [] [])) [(.t 8)], none⟩, ⟨some 10, .faddr 1 (.t 3), none⟩, ⟨none, .store 1 (.t 10) (.t 9), none⟩]) laws_toCon_b4)
def laws_toCon_b2 : HCode := (.seq (.reg [⟨some 4, .faddr 0 (.t 1), none⟩, ⟨some 5, .load false 1 (.t 4), none⟩, ⟨some 6, .faddr 0 (.t 3), none⟩, ⟨none, .store 1 (.t 6) (.t 5), none⟩]) laws_toCon_b3)
def laws_toCon_b1 : HCode := (.seq (.reg [⟨some 3, .alloc (.agg [(.str ⟨⟨[]⟩⟩), .nils]), none⟩]) laws_toCon_b2)
def laws_toCon_b0 : HCode := (.seq (.reg [⟨some 1, .box (.t 0), none⟩, ⟨some 2, .alloc (.agg [(.str ⟨⟨[]⟩⟩), .nils]), none⟩]) laws_toCon_b1)
def laws_toCon : HFunc := { np := 1, ntmps := 12, results := [(2, some (true, 2))], body := laws_toCon_b0 }
def laws_toConS_b3 : HCode := (.seq (.reg [⟨some 22, .mov (.t 3), none⟩, ⟨some 2, .mov (.t 22), none⟩]) .ret)
def laws_toConS_b7 : HCode := (.reg [⟨some 12, .mov (.t 4), none⟩, ⟨some 13, .bin .add (.t 12) (.c (.int .i64 1)), none⟩, ⟨some 4, .mov (.t 13), none⟩])
def laws_toConS_b6 : HCode := (.seq (.block 1 (.reg [⟨some 14, .mov (.t 3), none⟩, ⟨some 15, .mov (.t 4), none⟩, ⟨some 16, .mov (.t 0), none⟩, ⟨some 17, .mov (.t 4), none⟩, ⟨some 18, .iaddr 2 (.t 16) (.t 17), none⟩, ⟨some 19, .load true 2 (.t 18), none⟩, ⟨some 20, .call (.c (.fn F.laws_toCon [] [])) [(.t 19)], none⟩, ⟨some 21, .iaddr 2 (.t 14) (.t 15), none⟩, ⟨none, .store 2 (.t 21) (.t 20), none⟩])) laws_toConS_b7)
def laws_toConS_b8 : HCode := (.cond (.t 11) .skip (.exit 0))
def laws_toConS_l5 : HCode := (.seq (.seq (.reg [⟨some 8, .mov (.t 4), none⟩, ⟨some 9, .mov (.t 0), none⟩, ⟨some 10, .len (.t 9), none⟩, ⟨some 11, .bin .lss (.t 8) (.t 10), none⟩]) laws_toConS_b8) laws_toConS_b6)
def laws_toConS_b4 : HCode := (.block 0 (.loop laws_toConS_l5))
def laws_toConS_b2 : HCode := (.seq (.seq (.reg [⟨some 4, .mov (.c (.int .i64 0)), none⟩]) laws_toConS_b4) laws_toConS_b3)
def laws_toConS_b1 : HCode := (.seq (.reg [⟨some 5, .mov (.t 0), none⟩, ⟨some 6, .len (.t 5), none⟩, ⟨some 7, .mkslice 2 40 (.agg [(.str ⟨⟨[]⟩⟩), .nils]) (.t 6) (.t 6), none⟩, ⟨some 3, .mov (.t 7), none⟩]) laws_toConS_b2)
def laws_toConS_b0 : HCode := (.seq (.reg [⟨some 2, .mov (.c .nils), none⟩]) laws_toConS_b1)
def laws_toConS : HFunc := { np := 1, ntmps := 23, results := [(2, none)], body := laws_toConS_b0 }
def laws_toData_b4 : HCode := (.seq (.reg [⟨some 11, .load true 2 (.t 3), none⟩, ⟨none, .store 2 (.t 2) (.t 11), none⟩]) .ret)
def laws_toData_b3 : HCode := (.seq (.reg [⟨some 7, .faddr 1 (.t 1), none⟩, ⟨some 8, .load false 1 (.t 7), none⟩, ⟨some 9, .call (.c (.fn F.laws_toConS [] [])) [(.t 8)], none⟩, ⟨some 10, .faddr 1 (.t 3), none⟩, ⟨none, .store 1 (.t 10) (.t 9), none⟩]) laws_toData_b4)
def laws_toData_b2 : HCode := (.seq (.reg [⟨some 4, .faddr 0 (.t 1), none⟩, ⟨some 5, .load false 1 (.t 4), none⟩, ⟨some 6, .faddr 0 (.t 3), none⟩, ⟨none, .store 1 (.t 6) (.t 5), none⟩]) laws_toData_b3)
def laws_toData_b1 : HCode := (.seq (.reg [⟨some 3, .alloc (.agg [(.str ⟨⟨[]⟩⟩), .nils]), none⟩]) laws_toData_b2)
def laws_toData_b0 : HCode := (.seq (.reg [⟨some 1, .box (.t 0), none⟩, ⟨some 2, .alloc (.agg [(.str ⟨⟨[]⟩⟩), .nils]), none⟩]) laws_toData_b1)
def laws_toData : HFunc := { np := 1, ntmps := 12, results := [(2, some (true, 2))], body := laws_toData_b0 }
def laws_toDataS_b3 : HCode := (.seq (.reg [⟨some 22, .mov (.t 3), none⟩, ⟨some 2, .mov (.t 22), none⟩]) .ret)
def laws_toDataS_b7 : HCode := (.reg [⟨some 12, .mov (.t 4), none⟩, ⟨some 13, .bin .add (.t 12) (.c (.int .i64 1)), none⟩, ⟨some 4, .mov (.t 13), none⟩])
def laws_toDataS_b6 : HCode := (.seq (.block 1 (.reg [⟨some 14, .mov (.t 3), none⟩, ⟨some 15, .mov (.t 4), none⟩, ⟨some 16, .mov (.t 0), none⟩, ⟨some 17, .mov (.t 4), none⟩, ⟨some 18, .iaddr 2 (.t 16) (.t 17), none⟩, ⟨some 19, .load true 2 (.t 18), none⟩, ⟨some 20, .call (.c (.fn F.laws_toData [] [])) [(.t 19)], none⟩, ⟨some 21, .iaddr 2 (.t 14) (.t 15), none⟩, ⟨none, .store 2 (.t 21) (.t 20), none⟩])) laws_toDataS_b7)
def laws_toDataS_b8 : HCode := (.cond (.t 11) .skip (.exit 0))
def laws_toDataS_l5 : HCode := (.seq (.seq (.reg [⟨some 8, .mov (.t 4), none⟩, ⟨some 9, .mov (.t 0), none⟩, ⟨some 10, .len (.t 9), none⟩, ⟨some 11, .bin .lss (.t 8) (.t 10), none⟩]) laws_toDataS_b8) laws_toDataS_b6)
def laws_toDataS_b4 : HCode := (.block 0 (.loop laws_toDataS_l5))
def laws_toDataS_b2 : HCode := (.seq (.seq (.reg [⟨some 4, .mov (.c (.int .i64 0)), none⟩]) laws_toDataS_b4) laws_toDataS_b3)
def laws_toDataS_b1 : HCode := (.seq (.reg [⟨some 5, .mov (.t 0), none⟩, ⟨some 6, .len (.t 5), none⟩, ⟨some 7, .mkslice 2 40 (.agg [(.str ⟨⟨[]⟩⟩), .nils]) (.t 6) (.t 6), none⟩, ⟨some 3, .mov (.t 7), none⟩]) laws_toDataS_b2)
def laws_toDataS_b0 : HCode := (.seq (.reg [⟨some 2, .mov (.c .nils), none⟩]) laws_toDataS_b1)
def laws_toDataS : HFunc := { np := 1, ntmps := 23, results := [(2, none)], body := laws_toDataS_b0 }
def laws_toStringS_b3 : HCode := (.seq (.reg [⟨some 21, .mov (.t 3), none⟩, ⟨some 2, .mov (.t 21), none⟩]) .ret)
def laws_toStringS_b7 : HCode := (.reg [⟨some 12, .mov (.t 4), none⟩, ⟨some 13, .bin .add (.t 12) (.c (.int .i64 1)), none⟩, ⟨some 4, .mov (.t 13), none⟩])
def laws_toStringS_b6 : HCode := (.seq (.block 1 (.reg [⟨some 14, .mov (.t 3), none⟩, ⟨some 15, .mov (.t 4), none⟩, ⟨some 16, .mov (.t 0), none⟩, ⟨some 17, .mov (.t 4), none⟩, ⟨some 18, .iaddr 1 (.t 16) (.t 17), none⟩, ⟨some 19, .load false 1 (.t 18), none⟩, ⟨some 20, .iaddr 1 (.t 14) (.t 15), none⟩, ⟨none, .store 1 (.t 20) (.t 19), none⟩])) laws_toStringS_b7)
def laws_toStringS_b8 : HCode := (.cond (.t 11) .skip (.exit 0))
def laws_toStringS_l5 : HCode := (.seq (.seq (.reg [⟨some 8, .mov (.t 4), none⟩, ⟨some 9, .mov (.t 0), none⟩, ⟨some 10, .len (.t 9), none⟩, ⟨some 11, .bin .lss (.t 8) (.t 10), none⟩]) laws_toStringS_b8) laws_toStringS_b6)
def laws_toStringS_b4 : HCode := (.block 0 (.loop laws_toStringS_l5))
def laws_toStringS_b2 : HCode := (.seq (.seq (.reg [⟨some 4, .mov (.c (.int .i64 0)), none⟩]) laws_toStringS_b4) laws_toStringS_b3)
def laws_toStringS_b1 : HCode := (.seq (.reg [⟨some 5, .mov (.t 0), none⟩, ⟨some 6, .len (.t 5), none⟩, ⟨some 7, .mkslice 1 16 (.str ⟨⟨[]⟩⟩) (.t 6) (.t 6), none⟩, ⟨some 3, .mov (.t 7), none⟩]) laws_toStringS_b2)
def laws_toStringS_b0 : HCode := (.seq (.reg [⟨some 2, .mov (.c .nils), none⟩]) laws_toStringS_b1)
def laws_toStringS : HFunc := { np := 1, ntmps := 22, results := [(2, none)], body := laws_toStringS_b0 }
def laws_toAlt_b5 : HCode := (.seq (.reg [⟨some 15, .load true 8 (.t 3), none⟩, ⟨none, .store 8 (.t 2) (.t 15), none⟩]) .ret)
def laws_toAlt_b4 : HCode := (.seq (.reg [⟨some 11, .faddr 2 (.t 1), none⟩, ⟨some 12, .load true 6 (.t 11), none⟩, ⟨some 13, .call (.c (.fn F.laws_toExp [] [])) [(.t 12)], none⟩, ⟨some 14, .faddr 2 (.t 3), none⟩, ⟨none, .store 6 (.t 14) (.t 13), none⟩]) laws_toAlt_b5)
def laws_toAlt_b3 : HCode := (.seq (.reg [⟨some 7, .faddr 1 (.t 1), none⟩, ⟨some 8, .load false 1 (.t 7), none⟩, ⟨some 9, .call (.c (.fn F.laws_toStringS [] [])) [(.t 8)], none⟩, ⟨some 10, .faddr 1 (.t 3), none⟩, ⟨none, .store 1 (.t 10) (.t 9), none⟩]) laws_toAlt_b4)
def laws_toAlt_b2 : HCode := (.seq (.reg [⟨some 4, .faddr 0 (.t 1), none⟩, ⟨some 5, .load false 1 (.t 4), none⟩, ⟨some 6, .faddr 0 (.t 3), none⟩, ⟨none, .store 1 (.t 6) (.t 5), none⟩]) laws_toAlt_b3)
def laws_toAlt_b1 : HCode := (.seq (.reg [⟨some 3, .alloc (.agg [(.str ⟨⟨[]⟩⟩), .nils, (.int .i64 0), (.str ⟨⟨[]⟩⟩), (.int .i64 0), .nils, .nils, .nils]), none⟩]) laws_toAlt_b2)
def laws_toAlt_b0 : HCode := (.seq (.reg [⟨some 1, .box (.t 0), none⟩, ⟨some 2, .alloc (.agg [(.str ⟨⟨[]⟩⟩), .nils, (.int .i64 0), (.str ⟨⟨[]⟩⟩), (.int .i64 0), .nils, .nils, .nils]), none⟩]) laws_toAlt_b1)
def laws_toAlt : HFunc := { np := 1, ntmps := 16, results := [(2, some (true, 8))], body := laws_toAlt_b0 }
def laws_toAltS_b3 : HCode := (.seq (.reg [⟨some 22, .mov (.t 3), none⟩, ⟨some 2, .mov (.t 22), none⟩]) .ret)
def laws_toAltS_b7 : HCode := (.reg [⟨some 12, .mov (.t 4), none⟩, ⟨some 13, .bin .add (.t 12) (.c (.int .i64 1)), none⟩, ⟨some 4, .mov (.t 13), none⟩])
def laws_toAltS_b6 : HCode := (.seq (.block 1 (.reg [⟨some 14, .mov (.t 3), none⟩, ⟨some 15, .mov (.t 4), none⟩, ⟨some 16, .mov (.t 0), none⟩, ⟨some 17, .mov (.t 4), none⟩, ⟨some 18, .iaddr 8 (.t 16) (.t 17), none⟩, ⟨some 19, .load true 8 (.t 18), none⟩, ⟨some 20, .call (.c (.fn F.laws_toAlt [] [])) [(.t 19)], none⟩, ⟨some 21, .iaddr 8 (.t 14) (.t 15), none⟩, ⟨none, .store 8 (.t 21) (.t 20), none⟩])) laws_toAltS_b7)
def laws_toAltS_b8 : HCode := (.cond (.t 11) .skip (.exit 0))
def laws_toAltS_l5 : HCode := (.seq (.seq (.reg [⟨some 8, .mov (.t 4), none⟩, ⟨some 9, .mov (.t 0), none⟩, ⟨some 10, .len (.t 9), none⟩, ⟨some 11, .bin .lss (.t 8) (.t 10), none⟩]) laws_toAltS_b8) laws_toAltS_b6)
def laws_toAltS_b4 : HCode := (.block 0 (.loop laws_toAltS_l5))
def laws_toAltS_b2 : HCode := (.seq (.seq (.reg [⟨some 4, .mov (.c (.int .i64 0)), none⟩]) laws_toAltS_b4) laws_toAltS_b3)
def laws_toAltS_b1 : HCode := (.seq (.reg [⟨some 5, .mov (.t 0), none⟩, ⟨some 6, .len (.t 5), none⟩, ⟨some 7, .mkslice 8 144 (.agg [(.str ⟨⟨[]⟩⟩), .nils, (.int .i64 0), (.str ⟨⟨[]⟩⟩), (.int .i64 0), .nils, .nils, .nils]) (.t 6) (.t 6), none⟩, ⟨some 3, .mov (.t 7), none⟩]) laws_toAltS_b2)
def laws_toAltS_b0 : HCode := (.seq (.reg [⟨some 2, .mov (.c .nils), none⟩]) laws_toAltS_b1)
def laws_toAltS : HFunc := { np := 1, ntmps := 23, results := [(2, none)], body := laws_toAltS_b0 }
def laws_toDec_b6 : HCode := (.seq (.reg [⟨some 19, .load true 9 (.t 3), none⟩, ⟨none, .store 9 (.t 2) (.t 19), none⟩]) .ret)
def laws_toDec_b5 : HCode := (.seq (.reg [⟨some 15, .faddr 8 (.t 1), none⟩, ⟨some 16, .load false 1 (.t 15), none⟩, ⟨some 17, .call (.c (.fn F.laws_toDecS [] [])) [(.t 16)], none⟩, ⟨some 18, .faddr 8 (.t 3), none⟩, ⟨none, .store 1 (.t 18) (.t 17), none⟩]) laws_toDec_b6)
def laws_toDec_b4 : HCode := (.seq (.reg [⟨some 11, .faddr 2 (.t 1), none⟩, ⟨some 12, .load true 6 (.t 11), none⟩, ⟨some 13, .call (.c (.fn F.laws_toExp [] [])) [(.t 12)], none⟩, ⟨some 14, .faddr 2 (.t 3), none⟩, ⟨none, .store 6 (.t 14) (.t 13), none⟩]) laws_toDec_b5)
def laws_toDec_b3 : HCode := (.seq (.reg [⟨some 7, .faddr 1 (.t 1), none⟩, ⟨some 8, .load false 1 (.t 7), none⟩, ⟨some 9, .call (.c (.fn F.laws_toStringS [] [])) [(.t 8)], none⟩, ⟨some 10, .faddr 1 (.t 3), none⟩, ⟨none, .store 1 (.t 10) (.t 9), none⟩]) laws_toDec_b4)
def laws_toDec_b2 : HCode := (.seq (.reg [⟨some 4, .faddr 0 (.t 1), none⟩, ⟨some 5, .load false 1 (.t 4), none⟩, ⟨some 6, .faddr 0 (.t 3), none⟩, ⟨none, .store 1 (.t 6) (.t 5), none⟩]) laws_toDec_b3)
def laws_toDec_b1 : HCode := (.seq (.reg [⟨some 3, .alloc (.agg [(.str ⟨⟨[]⟩⟩), .nils, (.int .i64 0), (.str ⟨⟨[]⟩⟩), (.int .i64 0), .nils, .nils, .nils, .nils]), none⟩]) laws_toDec_b2)
def laws_toDec_b0 : HCode := (.seq (.reg [⟨some 1, .box (.t 0), none⟩, ⟨some 2, .alloc (.agg [(.str ⟨⟨[]⟩⟩), .nils, (.int .i64 0), (.str ⟨⟨[]⟩⟩), (.int .i64 0), .nils, .nils, .nils, .nils]), none⟩]) laws_toDec_b1)
def laws_toDec : HFunc := { np := 1, ntmps := 20, results := [(2, some (true, 9))], body := laws_toDec_b0 }
def laws_toDecS_b3 : HCode := (.seq (.reg [⟨some 22, .mov (.t 3), none⟩, ⟨some 2, .mov (.t 22), none⟩]) .ret)
def laws_toDecS_b7 : HCode := (.reg [⟨some 12, .mov (.t 4), none⟩, ⟨some 13, .bin .add (.t 12) (.c (.int .i64 1)), none⟩, ⟨some 4, .mov (.t 13), none⟩])
def laws_toDecS_b6 : HCode := (.seq (.block 1 (.reg [⟨some 14, .mov (.t 3), none⟩, ⟨some 15, .mov (.t 4), none⟩, ⟨some 16, .mov (.t 0), none⟩, ⟨some 17, .mov (.t 4), none⟩, ⟨some 18, .iaddr 9 (.t 16) (.t 17), none⟩, ⟨some 19, .load true 9 (.t 18), none⟩, ⟨some 20, .call (.c (.fn F.laws_toDec [] [])) [(.t 19)], none⟩, ⟨some 21, .iaddr 9 (.t 14) (.t 15), none⟩, ⟨none, .store 9 (.t 21) (.t 20), none⟩])) laws_toDecS_b7)
def laws_toDecS_b8 : HCode := (.cond (.t 11) .skip (.exit 0))
def laws_toDecS_l5 : HCode := (.seq (.seq (.reg [⟨some 8, .mov (.t 4), none⟩, ⟨some 9, .mov (.t 0), none⟩, ⟨some 10, .len (.t 9), none⟩, ⟨some 11, .bin .lss (.t 8) (.t 10), none⟩]) laws_toDecS_b8) laws_toDecS_b6)
def laws_toDecS_b4 : HCode := (.block 0 (.loop laws_toDecS_l5))
def laws_toDecS_b2 : HCode := (.seq (.seq (.reg [⟨some 4, .mov (.c (.int .i64 0)), none⟩]) laws_toDecS_b4) laws_toDecS_b3)
def laws_toDecS_b1 : HCode := (.seq (.reg [⟨some 5, .mov (.t 0), none⟩, ⟨some 6, .len (.t 5), none⟩, ⟨some 7, .mkslice 9 168 (.agg [(.str ⟨⟨[]⟩⟩), .nils, (.int .i64 0), (.str ⟨⟨[]⟩⟩), (.int .i64 0), .nils, .nils, .nils, .nils]) (.t 6) (.t 6), none⟩, ⟨some 3, .mov (.t 7), none⟩]) laws_toDecS_b2)
def laws_toDecS_b0 : HCode := (.seq (.reg [⟨some 2, .mov (.c .nils), none⟩]) laws_toDecS_b1)
def laws_toDecS : HFunc := { np := 1, ntmps := 23, results := [(2, none)], body := laws_toDecS_b0 }
def laws_toExp_b8 : HCode := (.seq (.reg [⟨some 25, .load true 6 (.t 3), none⟩, ⟨none, .store 6 (.t 2) (.t 25), none⟩]) .ret)
def laws_toExp_b7 : HCode := (.seq (.reg [⟨some 21, .faddr 5 (.t 1), none⟩, ⟨some 22, .load false 1 (.t 21), none⟩, ⟨some 23, .call (.c (.fn F.laws_toAltS [] [])) [(.t 22)], none⟩, ⟨some 24, .faddr 5 (.t 3), none⟩, ⟨none, .store 1 (.t 24) (.t 23), none⟩]) laws_toExp_b8)
def laws_toExp_b6 : HCode := (.seq (.reg [⟨some 17, .faddr 4 (.t 1), none⟩, ⟨some 18, .load false 1 (.t 17), none⟩, ⟨some 19, .call (.c (.fn F.laws_toDecS [] [])) [(.t 18)], none⟩, ⟨some 20, .faddr 4 (.t 3), none⟩, ⟨none, .store 1 (.t 20) (.t 19), none⟩]) laws_toExp_b7)
def laws_toExp_b5 : HCode := (.seq (.reg [⟨some 13, .faddr 3 (.t 1), none⟩, ⟨some 14, .load false 1 (.t 13), none⟩, ⟨some 15, .call (.c (.fn F.laws_toExpS [] [])) [(.t 14)], none⟩, ⟨some 16, .faddr 3 (.t 3), none⟩, ⟨none, .store 1 (.t 16) (.t 15), none⟩]) laws_toExp_b6)
def laws_toExp_b4 : HCode := (.seq (.reg [⟨some 10, .faddr 2 (.t 1), none⟩, ⟨some 11, .load false 1 (.t 10), none⟩, ⟨some 12, .faddr 2 (.t 3), none⟩, ⟨none, .store 1 (.t 12) (.t 11), none⟩]) laws_toExp_b5)
def laws_toExp_b3 : HCode := (.seq (.reg [⟨some 7, .faddr 1 (.t 1), none⟩, ⟨some 8, .load false 1 (.t 7), none⟩, ⟨some 9, .faddr 1 (.t 3), none⟩, ⟨none, .store 1 (.t 9) (.t 8), none⟩]) laws_toExp_b4)
def laws_toExp_b2 : HCode := (.seq (.reg [⟨some 4, .faddr 0 (.t 1), none⟩, ⟨some 5, .load false 1 (.t 4), none⟩, ⟨some 6, .faddr 0 (.t 3), none⟩, ⟨none, .store 1 (.t 6) (.t 5), none⟩]) laws_toExp_b3)
def laws_toExp_b1 : HCode := (.seq (.reg [⟨some 3, .alloc (.agg [(.int .i64 0), (.str ⟨⟨[]⟩⟩), (.int .i64 0), .nils, .nils, .nils]), none⟩]) laws_toExp_b2)
def laws_toExp_b0 : HCode := (.seq (.reg [⟨some 1, .box (.t 0), none⟩, ⟨some 2, .alloc (.agg [(.int .i64 0), (.str ⟨⟨[]⟩⟩), (.int .i64 0), .nils, .nils, .nils]), none⟩]) laws_toExp_b1)
def laws_toExp : HFunc := { np := 1, ntmps := 26, results := [(2, some (true, 6))], body := laws_toExp_b0 }
def laws_toExpS_b3 : HCode := (.seq (.reg [⟨some 22, .mov (.t 3), none⟩, ⟨some 2, .mov (.t 22), none⟩]) .ret)
def laws_toExpS_b7 : HCode := (.reg [⟨some 12, .mov (.t 4), none⟩, ⟨some 13, .bin .add (.t 12) (.c (.int .i64 1)), none⟩, ⟨some 4, .mov (.t 13), none⟩])
def laws_toExpS_b6 : HCode := (.seq (.block 1 (.reg [⟨some 14, .mov (.t 3), none⟩, ⟨some 15, .mov (.t 4), none⟩, ⟨some 16, .mov (.t 0), none⟩, ⟨some 17, .mov (.t 4), none⟩, ⟨some 18, .iaddr 6 (.t 16) (.t 17), none⟩, ⟨some 19, .load true 6 (.t 18), none⟩, ⟨some 20, .call (.c (.fn F.laws_toExp [] [])) [(.t 19)], none⟩, ⟨some 21, .iaddr 6 (.t 14) (.t 15), none⟩, ⟨none, .store 6 (.t 21) (.t 20), none⟩])) laws_toExpS_b7)
def laws_toExpS_b8 : HCode := (.cond (.t 11) .skip (.exit 0))
def laws_toExpS_l5 : HCode := (.seq (.seq (.reg [⟨some 8, .mov (.t 4), none⟩, ⟨some 9, .mov (.t 0), none⟩, ⟨some 10, .len (.t 9), none⟩, ⟨some 11, .bin .lss (.t 8) (.t 10), none⟩]) laws_toExpS_b8) laws_toExpS_b6)
def laws_toExpS_b4 : HCode := (.block 0 (.loop laws_toExpS_l5))
def laws_toExpS_b2 : HCode := (.seq (.seq (.reg [⟨some 4, .mov (.c (.int .i64 0)), none⟩]) laws_toExpS_b4) laws_toExpS_b3)
def laws_toExpS_b1 : HCode := (.seq (.reg [⟨some 5, .mov (.t 0), none⟩, ⟨some 6, .len (.t 5), none⟩, ⟨some 7, .mkslice 6 104 (.agg [(.int .i64 0), (.str ⟨⟨[]⟩⟩), (.int .i64 0), .nils, .nils, .nils]) (.t 6) (.t 6), none⟩, ⟨some 3, .mov (.t 7), none⟩]) laws_toExpS_b2)
def laws_toExpS_b0 : HCode := (.seq (.reg [⟨some 2, .mov (.c .nils), none⟩]) laws_toExpS_b1)
def laws_toExpS : HFunc := { np := 1, ntmps := 23, results := [(2, none)], body := laws_toExpS_b0 }
def laws_toProg_b4 : HCode := (.seq (.reg [⟨some 12, .load true 2 (.t 3), none⟩, ⟨none, .store 2 (.t 2) (.t 12), none⟩]) .ret)
def laws_toProg_b3 : HCode := (.seq (.reg [⟨some 8, .faddr 1 (.t 1), none⟩, ⟨some 9, .load false 1 (.t 8), none⟩, ⟨some 10, .call (.c (.fn F.laws_toDecS [] [])) [(.t 9)], none⟩, ⟨some 11, .faddr 1 (.t 3), none⟩, ⟨none, .store 1 (.t 11) (.t 10), none⟩]) laws_toProg_b4)
def laws_toProg_b2 : HCode := (.seq (.reg [⟨some 4, .faddr 0 (.t 1), none⟩, ⟨some 5, .load false 1 (.t 4), none⟩, ⟨some 6, .call (.c (.fn F.laws_toDataS [] [])) [(.t 5)], none⟩, ⟨some 7, .faddr 0 (.t 3), none⟩, ⟨none, .store 1 (.t 7) (.t 6), none⟩]) laws_toProg_b3)
def laws_toProg_b1 : HCode := (.seq (.reg [⟨some 3, .alloc (.agg [.nils, .nils]), none⟩]) laws_toProg_b2)
def laws_toProg_b0 : HCode := (.seq (.reg [⟨some 1, .box (.t 0), none⟩, ⟨some 2, .alloc (.agg [.nils, .nils]), none⟩]) laws_toProg_b1)
def laws_toProg : HFunc := { np := 1, ntmps := 13, results := [(2, some (true, 2))], body := laws_toProg_b0 }
def laws_FnExactSameProg_b13 : HCode := (.seq (.reg [⟨some 4, .mov (.c (.bool true)), none⟩]) .ret)
def laws_FnExactSameProg_b15 : HCode := (.seq (.reg [⟨some 4, .mov (.c (.bool false)), none⟩]) .ret)
def laws_FnExactSameProg_b14 : HCode := (.cond (.t 44) laws_FnExactSameProg_b15 .skip)
def laws_FnExactSameProg_b12 : HCode := (.seq (.seq (.dreg (.q ⟨some 40, .load true 2 (.t 8), none⟩ (.q ⟨some 41, .load true 2 (.t 3), none⟩ (.l ⟨some 42, .call (.c (.fn F.laws_toProg [] [])) [(.t 41)], none⟩ [⟨some 40, .load true 2 (.t 8), none⟩] (.l ⟨some 43, .call (.c (.fn F.laws_eqProg [] [])) [(.t 40), (.t 42)], none⟩ [] (.q ⟨some 44, .not (.t 43), none⟩ .done) .none) .none)))) laws_FnExactSameProg_b14) laws_FnExactSameProg_b13)
def laws_FnExactSameProg_b17 : HCode := (.seq (.reg [⟨some 4, .mov (.c (.bool false)), none⟩]) .ret)
def laws_FnExactSameProg_b16 : HCode := (.cond (.t 39) laws_FnExactSameProg_b17 .skip)
def laws_FnExactSameProg_b11 : HCode := (.seq (.seq (.dreg (.q ⟨some 35, .load true 2 (.t 7), none⟩ (.q ⟨some 36, .load true 2 (.t 2), none⟩ (.l ⟨some 37, .call (.c (.fn F.laws_toProg [] [])) [(.t 36)], none⟩ [⟨some 35, .load true 2 (.t 7), none⟩] (.l ⟨some 38, .call (.c (.fn F.laws_eqProg [] [])) [(.t 35), (.t 37)], none⟩ [] (.q ⟨some 39, .not (.t 38), none⟩ .done) .none) .none)))) laws_FnExactSameProg_b16) laws_FnExactSameProg_b12)
def laws_FnExactSameProg_b19 : HCode := (.seq (.reg [⟨some 4, .mov (.c (.bool false)), none⟩]) .ret)
def laws_FnExactSameProg_b18 : HCode := (.cond (.t 34) laws_FnExactSameProg_b19 .skip)
def laws_FnExactSameProg_b10 : HCode := (.seq (.seq (.reg [⟨some 32, .mov (.t 9), none⟩, ⟨some 33, .mov (.t 6), none⟩, ⟨some 34, .bbin .neq (.t 32) (.t 33), none⟩]) laws_FnExactSameProg_b18) laws_FnExactSameProg_b11)
def laws_FnExactSameProg_b9 : HCode := (.seq (.reg [⟨some 29, .load true 2 (.t 7), none⟩, ⟨some 30, .load true 2 (.t 8), none⟩, ⟨some 31, .call (.c (.fn F.impl_SameProg [] [])) [(.t 29), (.t 30)], none⟩, ⟨some 9, .mov (.t 31), none⟩]) laws_FnExactSameProg_b10)
def laws_FnExactSameProg_b8 : HCode := (.seq (.reg [⟨some 27, .load true 2 (.t 3), none⟩, ⟨some 28, .call (.c (.fn F.laws_toProg [] [])) [(.t 27)], none⟩, ⟨some 8, .alloc (.agg [.nils, .nils]), none⟩, ⟨none, .store 2 (.t 8) (.t 28), none⟩]) laws_FnExactSameProg_b9)
def laws_FnExactSameProg_b7 : HCode := (.seq (.reg [⟨some 25, .load true 2 (.t 2), none⟩, ⟨some 26, .call (.c (.fn F.laws_toProg [] [])) [(.t 25)], none⟩, ⟨some 7, .alloc (.agg [.nils, .nils]), none⟩, ⟨none, .store 2 (.t 7) (.t 26), none⟩]) laws_FnExactSameProg_b8)
def laws_FnExactSameProg_b6 : HCode := (.seq (.dreg (.q ⟨some 20, .load true 2 (.t 2), none⟩ (.q ⟨some 22, .load true 2 (.t 3), none⟩ (.l ⟨some 21, .call (.c (.fn F.laws_toProg [] [])) [(.t 20)], none⟩ [⟨some 22, .load true 2 (.t 3), none⟩] (.l ⟨some 23, .call (.c (.fn F.laws_toProg [] [])) [(.t 22)], none⟩ [] (.l ⟨some 24, .call (.c (.fn F.spec_SameProg [] [])) [(.t 21), (.t 23)], none⟩ [] (.q ⟨some 6, .mov (.t 24), none⟩ .done) .none) .none) .none)))) laws_FnExactSameProg_b7)
def laws_FnExactSameProg_b21 : HCode := (.seq (.reg [⟨some 4, .mov (.c (.bool true)), none⟩]) .ret)
def laws_FnExactSameProg_b20 : HCode := (.cond (.t 19) laws_FnExactSameProg_b21 .skip)
def laws_FnExactSameProg_b5 : HCode := (.seq (.seq (.reg [⟨some 18, .mov (.t 5), none⟩, ⟨some 19, .bin .lss (.t 18) (.c (.int .i64 0)), none⟩]) laws_FnExactSameProg_b20) laws_FnExactSameProg_b6)
def laws_FnExactSameProg_b4 : HCode := (.seq (.reg [⟨some 15, .load true 2 (.t 3), none⟩, ⟨some 16, .mov (.t 5), none⟩, ⟨some 17, .call (.c (.fn F.laws_szProg [] [])) [(.t 15), (.t 16)], none⟩, ⟨some 5, .mov (.t 17), none⟩]) laws_FnExactSameProg_b5)
def laws_FnExactSameProg_b23 : HCode := (.seq (.reg [⟨some 4, .mov (.c (.bool true)), none⟩]) .ret)
def laws_FnExactSameProg_b22 : HCode := (.cond (.t 14) laws_FnExactSameProg_b23 .skip)
def laws_FnExactSameProg_b3 : HCode := (.seq (.seq (.reg [⟨some 13, .mov (.t 5), none⟩, ⟨some 14, .bin .lss (.t 13) (.c (.int .i64 0)), none⟩]) laws_FnExactSameProg_b22) laws_FnExactSameProg_b4)
def laws_FnExactSameProg_b2 : HCode := (.seq (.reg [⟨some 10, .load true 2 (.t 2), none⟩, ⟨some 11, .mov (.t 5), none⟩, ⟨some 12, .call (.c (.fn F.laws_szProg [] [])) [(.t 10), (.t 11)], none⟩, ⟨some 5, .mov (.t 12), none⟩]) laws_FnExactSameProg_b3)
def laws_FnExactSameProg_b1 : HCode := (.seq (.reg [⟨some 5, .mov (.c (.int .i64 1048576)), none⟩]) laws_FnExactSameProg_b2)
def laws_FnExactSameProg_b0 : HCode := (.seq (.reg [⟨some 2, .box (.t 0), none⟩, ⟨some 3, .box (.t 1), none⟩, ⟨some 4, .mov (.c (.bool false)), none⟩]) laws_FnExactSameProg_b1)
def laws_FnExactSameProg : HFunc := { np := 2, ntmps := 45, results := [(4, none)], body := laws_FnExactSameProg_b0 }
end H
namespace S
noncomputable abbrev P : Program := Go.Proofs.Try.prog
theorem slices_Equal_string : stripF P F.slices_Equal_string = some H.slices_Equal_string := by kernel_rfl
theorem impl_SameExp : stripF P F.impl_SameExp = some H.impl_SameExp := by kernel_rfl
theorem impl_sameAlt : stripF P F.impl_sameAlt = some H.impl_sameAlt := by kernel_rfl
theorem impl_sameDec : stripF P F.impl_sameDec = some H.impl_sameDec := by kernel_rfl
theorem slices_EqualFunc_impl_Alt : stripF P F.slices_EqualFunc_impl_Alt = some H.slices_EqualFunc_impl_Alt := by kernel_rfl
theorem slices_EqualFunc_impl_Dec : stripF P F.slices_EqualFunc_impl_Dec = some H.slices_EqualFunc_impl_Dec := by kernel_rfl
theorem slices_EqualFunc_impl_Exp : stripF P F.slices_EqualFunc_impl_Exp = some H.slices_EqualFunc_impl_Exp := by kernel_rfl
theorem impl_SameTy : stripF P F.impl_SameTy = some H.impl_SameTy := by kernel_rfl
theorem slices_EqualFunc_impl_Ty : stripF P F.slices_EqualFunc_impl_Ty = some H.slices_EqualFunc_impl_Ty := by kernel_rfl
theorem impl_sameCon : stripF P F.impl_sameCon = some H.impl_sameCon := by kernel_rfl
theorem slices_EqualFunc_impl_Con : stripF P F.slices_EqualFunc_impl_Con = some H.slices_EqualFunc_impl_Con := by kernel_rfl
theorem impl_sameData : stripF P F.impl_sameData = some H.impl_sameData := by kernel_rfl
theorem slices_EqualFunc_impl_Data : stripF P F.slices_EqualFunc_impl_Data = some H.slices_EqualFunc_impl_Data := by kernel_rfl
theorem impl_SameProg : stripF P F.impl_SameProg = some H.impl_SameProg := by kernel_rfl
theorem laws_szTy : stripF P F.laws_szTy = some H.laws_szTy := by kernel_rfl
theorem laws_szTyS : stripF P F.laws_szTyS = some H.laws_szTyS := by kernel_rfl
theorem laws_szCon : stripF P F.laws_szCon = some H.laws_szCon := by kernel_rfl
theorem laws_szConS : stripF P F.laws_szConS = some H.laws_szConS := by kernel_rfl
theorem laws_szData : stripF P F.laws_szData = some H.laws_szData := by kernel_rfl
theorem laws_szDataS : stripF P F.laws_szDataS = some H.laws_szDataS := by kernel_rfl
theorem laws_szStringS : stripF P F.laws_szStringS = some H.laws_szStringS := by kernel_rfl
theorem laws_szAlt : stripF P F.laws_szAlt = some H.laws_szAlt := by kernel_rfl
theorem laws_szAltS : stripF P F.laws_szAltS = some H.laws_szAltS := by kernel_rfl
theorem laws_szDec : stripF P F.laws_szDec = some H.laws_szDec := by kernel_rfl
theorem laws_szDecS : stripF P F.laws_szDecS = some H.laws_szDecS := by kernel_rfl
theorem laws_szExp : stripF P F.laws_szExp = some H.laws_szExp := by kernel_rfl
theorem laws_szExpS : stripF P F.laws_szExpS = some H.laws_szExpS := by kernel_rfl
theorem laws_szProg : stripF P F.laws_szProg = some H.laws_szProg := by kernel_rfl
theorem laws_eqTy : stripF P F.laws_eqTy = some H.laws_eqTy := by kernel_rfl
theorem laws_eqTyS : stripF P F.laws_eqTyS = some H.laws_eqTyS := by kernel_rfl
theorem laws_eqCon : stripF P F.laws_eqCon = some H.laws_eqCon := by kernel_rfl
theorem laws_eqConS : stripF P F.laws_eqConS = some H.laws_eqConS := by kernel_rfl
theorem laws_eqData : stripF P F.laws_eqData = some H.laws_eqData := by kernel_rfl
theorem laws_eqDataS : stripF P F.laws_eqDataS = some H.laws_eqDataS := by kernel_rfl
theorem laws_eqStringS : stripF P F.laws_eqStringS = some H.laws_eqStringS := by kernel_rfl
theorem laws_eqAlt : stripF P F.laws_eqAlt = some H.laws_eqAlt := by kernel_rfl
theorem laws_eqAltS : stripF P F.laws_eqAltS = some H.laws_eqAltS := by kernel_rfl
theorem laws_eqDec : stripF P F.laws_eqDec = some H.laws_eqDec := by kernel_rfl
theorem laws_eqDecS : stripF P F.laws_eqDecS = some H.laws_eqDecS := by kernel_rfl
theorem laws_eqExp : stripF P F.laws_eqExp = some H.laws_eqExp := by kernel_rfl
theorem laws_eqExpS : stripF P F.laws_eqExpS = some H.laws_eqExpS := by kernel_rfl
theorem laws_eqProg : stripF P F.laws_eqProg = some H.laws_eqProg := by kernel_rfl
theorem spec_SameTy : stripF P F.spec_SameTy = some H.spec_SameTy := by kernel_rfl
theorem spec_l3SameData : stripF P F.spec_l3SameData = some H.spec_l3SameData := by kernel_rfl
theorem spec_l3SameTexts : stripF P F.spec_l3SameTexts = some H.spec_l3SameTexts := by kernel_rfl
theorem spec_SameExp : stripF P F.spec_SameExp = some H.spec_SameExp := by kernel_rfl
theorem spec_l3SameDecs : stripF P F.spec_l3SameDecs = some H.spec_l3SameDecs := by kernel_rfl
theorem spec_SameProg : stripF P F.spec_SameProg = some H.spec_SameProg := by kernel_rfl
theorem laws_toTy : stripF P F.laws_toTy = some H.laws_toTy := by kernel_rfl
theorem laws_toTyS : stripF P F.laws_toTyS = some H.laws_toTyS := by kernel_rfl
theorem laws_toCon : stripF P F.laws_toCon = some H.laws_toCon := by kernel_rfl
theorem laws_toConS : stripF P F.laws_toConS = some H.laws_toConS := by kernel_rfl
theorem laws_toData : stripF P F.laws_toData = some H.laws_toData := by kernel_rfl
theorem laws_toDataS : stripF P F.laws_toDataS = some H.laws_toDataS := by kernel_rfl
theorem laws_toStringS : stripF P F.laws_toStringS = some H.laws_toStringS := by kernel_rfl
theorem laws_toAlt : stripF P F.laws_toAlt = some H.laws_toAlt := by kernel_rfl
theorem laws_toAltS : stripF P F.laws_toAltS = some H.laws_toAltS := by kernel_rfl
theorem laws_toDec : stripF P F.laws_toDec = some H.laws_toDec := by kernel_rfl
theorem laws_toDecS : stripF P F.laws_toDecS = some H.laws_toDecS := by kernel_rfl
theorem laws_toExp : stripF P F.laws_toExp = some H.laws_toExp := by kernel_rfl
theorem laws_toExpS : stripF P F.laws_toExpS = some H.laws_toExpS := by kernel_rfl
theorem laws_toProg : stripF P F.laws_toProg = some H.laws_toProg := by kernel_rfl
theorem laws_FnExactSameProg : stripF P F.laws_FnExactSameProg = some H.laws_FnExactSameProg := by kernel_rfl
end S
end W
