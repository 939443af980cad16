import Derived.Test.YtnhdobhfebiggaaHLVc
import Derived.KernelRfl
import Derived.Test.YtnhdobhfebiggaaProg
namespace W
open Go HL
set_option maxRecDepth 1000000
namespace F
abbrev main_main : Nat := 0
abbrev gosem_cut : Nat := 1
abbrev gosem_cut_init : Nat := 2
abbrev laws_FnExactSameTy : Nat := 3
abbrev laws_FnExactBlocks : Nat := 4
abbrev laws_FnExactVarsOf : Nat := 5
abbrev laws_FnExactLex : Nat := 6
abbrev laws_FnExactSameExp : Nat := 7
abbrev laws_FnExactIsBare : Nat := 8
abbrev laws_FnLex : Nat := 9
abbrev laws_FnExactDataOf : Nat := 10
abbrev laws_FnExactArityOf : Nat := 11
abbrev laws_FnExactSameProg : Nat := 12
abbrev laws_szTy : Nat := 13
abbrev spec_SameTy : Nat := 14
abbrev laws_toTy : Nat := 15
abbrev impl_SameTy : Nat := 16
abbrev laws_eqTy : Nat := 17
abbrev laws_szTokS : Nat := 18
abbrev spec_Blocks : Nat := 19
abbrev laws_toTokS : Nat := 20
abbrev impl_Blocks : Nat := 21
abbrev laws_eqTokS : Nat := 22
abbrev spec_VarsOf : Nat := 23
abbrev impl_VarsOf : Nat := 24
abbrev laws_eqIntS : Nat := 25
abbrev laws_markTy : Nat := 26
abbrev laws_markIntS : Nat := 27
abbrev laws_heldIntS : Nat := 28
abbrev spec_Lex : Nat := 29
abbrev impl_Lex : Nat := 30
abbrev laws_markTokS : Nat := 31
abbrev laws_heldTokS : Nat := 32
abbrev laws_szExp : Nat := 33
abbrev spec_SameExp : Nat := 34
abbrev laws_toExp : Nat := 35
abbrev impl_SameExp : Nat := 36
abbrev laws_eqExp : Nat := 37
abbrev spec_IsBare : Nat := 38
abbrev impl_IsBare : Nat := 39
abbrev laws_big : Nat := 40
abbrev spec_DrawLex : Nat := 41
abbrev spec_DrawNameOk : Nat := 42
abbrev spec_DrawGreatOk : Nat := 43
abbrev laws_sameToks : Nat := 44
abbrev impl_NameOk : Nat := 45
abbrev spec_NameOk : Nat := 46
abbrev impl_GreatOk : Nat := 47
abbrev spec_GreatOk : Nat := 48
abbrev impl_TokText : Nat := 49
abbrev laws_szProg : Nat := 50
abbrev spec_DataOf : Nat := 51
abbrev laws_toProg : Nat := 52
abbrev impl_DataOf : Nat := 53
abbrev laws_eqProg : Nat := 54
abbrev spec_ArityOf : Nat := 55
abbrev impl_ArityOf : Nat := 56
abbrev spec_SameProg : Nat := 57
abbrev impl_SameProg : Nat := 58
abbrev laws_szTyS : Nat := 59
abbrev laws_toTyS : Nat := 60
abbrev slices_EqualFunc_impl_Ty : Nat := 61
abbrev laws_eqTyS : Nat := 62
abbrev laws_szTok : Nat := 63
abbrev spec_l2Is : Nat := 64
abbrev laws_toTok : Nat := 65
abbrev slices_DeleteFunc_impl_Tok : Nat := 66
abbrev slices_Clone_impl_Tok : Nat := 67
abbrev impl_Blocks_1 : Nat := 68
abbrev impl_isMark : Nat := 69
abbrev laws_eqTok : Nat := 70
abbrev spec_l9Vars : Nat := 71
abbrev impl_varsIn : Nat := 72
abbrev laws_markTyS : Nat := 73
abbrev spec_l1Skip : Nat := 74
abbrev spec_l1Next : Nat := 75
abbrev spec_l1Place : Nat := 76
abbrev impl_passed : Nat := 77
abbrev impl_nextTok : Nat := 78
abbrev laws_markText : Nat := 79
abbrev laws_szExpS : Nat := 80
abbrev laws_szDecS : Nat := 81
abbrev laws_szAltS : Nat := 82
abbrev spec_l3SameDecs : Nat := 83
abbrev spec_l3SameTexts : Nat := 84
abbrev laws_toExpS : Nat := 85
abbrev laws_toDecS : Nat := 86
abbrev laws_toAltS : Nat := 87
abbrev slices_EqualFunc_impl_Exp : Nat := 88
abbrev slices_EqualFunc_impl_Dec : Nat := 89
abbrev impl_sameDec : Nat := 90
abbrev slices_EqualFunc_impl_Alt : Nat := 91
abbrev impl_sameAlt : Nat := 92
abbrev laws_eqExpS : Nat := 93
abbrev laws_eqDecS : Nat := 94
abbrev laws_eqAltS : Nat := 95
abbrev spec_l11Is : Nat := 96
abbrev impl_counted : Nat := 97
abbrev impl_IsBare_1 : Nat := 98
abbrev slices_ContainsFunc_impl_Dec : Nat := 99
abbrev impl_IsBare_1_1 : Nat := 100
abbrev spec_l1New : Nat := 101
abbrev spec_l1Text : Nat := 102
abbrev spec_l1Below : Nat := 103
abbrev spec_l1Str : Nat := 104
abbrev spec_l1Prog : Nat := 105
abbrev spec_l1Once : Nat := 106
abbrev impl_wordLike : Nat := 107
abbrev slices_Contains_string : Nat := 108
abbrev impl_words : Nat := 109
abbrev spec_l1Letters : Nat := 110
abbrev spec_l1Small : Nat := 111
abbrev spec_l1IsWord : Nat := 112
abbrev spec_l1Large : Nat := 113
abbrev strings_Join : Nat := 114
abbrev laws_szDataS : Nat := 115
abbrev laws_toDataS : Nat := 116
abbrev impl_isBool : Nat := 117
abbrev impl_conOf : Nat := 118
abbrev laws_eqDataS : Nat := 119
abbrev spec_l3SameData : Nat := 120
abbrev slices_EqualFunc_impl_Data : Nat := 121
abbrev impl_sameData : Nat := 122
abbrev slices_IndexFunc_impl_Tok : Nat := 123
abbrev spec_l9Has : Nat := 124
abbrev slices_Contains_int : Nat := 125
abbrev spec_l1Digit : Nat := 126
abbrev spec_l1NumOk : Nat := 127
abbrev spec_l1Letter : Nat := 128
abbrev spec_l1Kind : Nat := 129
abbrev spec_l1Has : Nat := 130
abbrev strings_HasPrefix : Nat := 131
abbrev impl_runLen : Nat := 132
abbrev impl_passed_1 : Nat := 133
abbrev impl_isLetter : Nat := 134
abbrev impl_nextTok_1 : Nat := 135
abbrev impl_isDigit : Nat := 136
abbrev impl_numberLike : Nat := 137
abbrev slices_Contains_byte : Nat := 138
abbrev laws_szDec : Nat := 139
abbrev laws_szAlt : Nat := 140
abbrev laws_toDec : Nat := 141
abbrev laws_toAlt : Nat := 142
abbrev slices_Equal_string : Nat := 143
abbrev laws_eqDec : Nat := 144
abbrev laws_eqAlt : Nat := 145
abbrev impl_mapped : Nat := 146
abbrev impl_counted_1 : Nat := 147
abbrev slices_IndexFunc_impl_Dec : Nat := 148
abbrev spec_l1Word : Nat := 149
abbrev spec_l1Byte : Nat := 150
abbrev impl_in : Nat := 151
abbrev slices_Index_string : Nat := 152
abbrev spec_l1In : Nat := 153
abbrev strings_Builder_Grow : Nat := 154
abbrev strings_Builder_WriteString : Nat := 155
abbrev strings_Builder_String : Nat := 156
abbrev laws_szData : Nat := 157
abbrev laws_toData : Nat := 158
abbrev laws_eqData : Nat := 159
abbrev slices_EqualFunc_impl_Con : Nat := 160
abbrev impl_sameCon : Nat := 161
abbrev slices_Index_int : Nat := 162
abbrev internal_stringslite_HasPrefix : Nat := 163
abbrev slices_Index_byte : Nat := 164
abbrev laws_szStringS : Nat := 165
abbrev laws_toStringS : Nat := 166
abbrev laws_eqStringS : Nat := 167
abbrev impl_mappedDecs : Nat := 168
abbrev slices_Clone_string : Nat := 169
abbrev strings_Builder_copyCheck : Nat := 170
abbrev strings_Builder_grow : Nat := 171
abbrev laws_szConS : Nat := 172
abbrev laws_toConS : Nat := 173
abbrev laws_eqConS : Nat := 174
abbrev internal_abi_NoEscape : Nat := 175
abbrev internal_bytealg_MakeNoZero : Nat := 176
abbrev laws_szCon : Nat := 177
abbrev laws_toCon : Nat := 178
abbrev laws_eqCon : Nat := 179
abbrev runtime_boundsError_Error : Nat := 180
abbrev runtime_boundsError_RuntimeError : Nat := 181
abbrev runtime_errorString_Error : Nat := 182
abbrev runtime_errorString_RuntimeError : Nat := 183
abbrev runtime_plainError_Error : Nat := 184
abbrev runtime_plainError_RuntimeError : Nat := 185
abbrev runtime_errorAddressString_Error : Nat := 186
abbrev runtime_errorAddressString_RuntimeError : Nat := 187
abbrev runtime_TypeAssertionError_Error : Nat := 188
abbrev runtime_TypeAssertionError_RuntimeError : Nat := 189
abbrev runtime_PanicNilError_Error : Nat := 190
abbrev runtime_PanicNilError_RuntimeError : Nat := 191
abbrev internal_abi_Type_Align : Nat := 192
abbrev internal_runtime_maps_unhashableTypeError_Error : Nat := 193
abbrev internal_runtime_maps_unhashableTypeError_RuntimeError : Nat := 194
abbrev strings_Builder_Reset : Nat := 195
abbrev internal_abi_Kind_String : Nat := 196
end F
namespace H
def impl_isMark_b1 : HCode := (.seq (.reg [⟨some 5, .faddr 0 (.t 2), none⟩, ⟨some 6, .load false 1 (.t 5), none⟩, ⟨some 7, .bin .eql (.t 6) (.c (.int .i64 5)), none⟩, ⟨some 8, .mov (.t 7), none⟩, ⟨some 9, .faddr 1 (.t 2), some (8, true)⟩, ⟨some 10, .load false 1 (.t 9), some (8, true)⟩, ⟨some 11, .mov (.t 1), some (8, true)⟩, ⟨some 12, .bin .eql (.t 10) (.t 11), some (8, true)⟩, ⟨some 13, .pick (.t 8) (.t 12) (.c (.bool false)), none⟩, ⟨some 4, .mov (.t 13), none⟩]) .ret)
def impl_isMark_b0 : HCode := (.seq (.reg [⟨some 2, .box (.t 0), none⟩, ⟨some 4, .mov (.c (.bool false)), none⟩]) impl_isMark_b1)
def impl_isMark : HFunc := { np := 2, ntmps := 14, results := [(4, none)], body := impl_isMark_b0 }
def impl_Blocks_1_b1 : HCode := (.seq (.reg [⟨some 3, .load true 4 (.t 1), none⟩, ⟨some 4, .call (.c (.fn F.impl_isMark [] [])) [(.t 3), (.c (.str ⟨⟨[123]⟩⟩))], none⟩, ⟨some 5, .not (.t 4), none⟩, ⟨some 6, .mov (.t 5), none⟩, ⟨some 7, .faddr 2 (.t 1), some (6, false)⟩, ⟨some 8, .load false 1 (.t 7), some (6, false)⟩, ⟨some 9, .bin .neq (.t 8) (.c (.int .i64 0)), some (6, false)⟩, ⟨some 10, .pick (.t 6) (.c (.bool true)) (.t 9), none⟩, ⟨some 2, .mov (.t 10), none⟩]) .ret)
def impl_Blocks_1_b0 : HCode := (.seq (.reg [⟨some 1, .box (.t 0), none⟩, ⟨some 2, .mov (.c (.bool false)), none⟩]) impl_Blocks_1_b1)
def impl_Blocks_1 : HFunc := { np := 1, ntmps := 11, results := [(2, none)], body := impl_Blocks_1_b0 }
def slices_IndexFunc_impl_Tok_b2 : HCode := (.seq (.reg [⟨some 4, .mov (.c (.int .i64 (-1))), none⟩]) .ret)
def slices_IndexFunc_impl_Tok_b7 : HCode := (.reg [⟨some 18, .bin .add (.t 8) (.c (.int .i64 1)), none⟩, ⟨some 8, .mov (.t 18), none⟩])
def slices_IndexFunc_impl_Tok_b10 : HCode := (.seq (.reg [⟨some 17, .mov (.t 5), none⟩, ⟨some 4, .mov (.t 17), none⟩]) .ret)
def slices_IndexFunc_impl_Tok_b9 : HCode := (.cond (.t 16) slices_IndexFunc_impl_Tok_b10 .skip)
def slices_IndexFunc_impl_Tok_b8 : HCode := (.seq (.reg [⟨some 11, .mov (.t 1), none⟩, ⟨some 12, .mov (.t 0), none⟩, ⟨some 13, .mov (.t 5), none⟩, ⟨some 14, .iaddr 4 (.t 12) (.t 13), none⟩, ⟨some 15, .load true 4 (.t 14), none⟩, ⟨some 16, .call (.t 11) [(.t 15)], none⟩]) slices_IndexFunc_impl_Tok_b9)
def slices_IndexFunc_impl_Tok_b6 : HCode := (.seq (.block 1 (.seq (.reg [⟨some 10, .mov (.t 8), none⟩, ⟨some 5, .mov (.t 10), none⟩]) slices_IndexFunc_impl_Tok_b8)) slices_IndexFunc_impl_Tok_b7)
def slices_IndexFunc_impl_Tok_b5 : HCode := (.seq (.cond (.t 9) .skip (.exit 0)) slices_IndexFunc_impl_Tok_b6)
def slices_IndexFunc_impl_Tok_l4 : HCode := (.seq (.reg [⟨some 9, .bin .lss (.t 8) (.t 7), none⟩]) slices_IndexFunc_impl_Tok_b5)
def slices_IndexFunc_impl_Tok_b3 : HCode := (.block 0 (.loop slices_IndexFunc_impl_Tok_l4))
def slices_IndexFunc_impl_Tok_b1 : HCode := (.seq (.seq (.reg [⟨some 6, .mov (.t 0), none⟩, ⟨some 7, .len (.t 6), none⟩, ⟨some 8, .mov (.c (.int .i64 0)), none⟩]) slices_IndexFunc_impl_Tok_b3) slices_IndexFunc_impl_Tok_b2)
def slices_IndexFunc_impl_Tok_b0 : HCode := (.seq (.reg [⟨some 4, .mov (.c (.int .i64 0)), none⟩]) slices_IndexFunc_impl_Tok_b1)
def slices_IndexFunc_impl_Tok : HFunc := { np := 2, ntmps := 19, results := [(4, none)], body := slices_IndexFunc_impl_Tok_b0 }
def slices_DeleteFunc_impl_Tok_b5 : HCode := (.seq (.reg [⟨some 39, .mov (.t 0), none⟩, ⟨some 40, .mov (.t 5), none⟩, ⟨some 41, .slice 4 (.t 39) none (some (.t 40)) none, none⟩, ⟨some 4, .mov (.t 41), none⟩]) .ret)
def slices_DeleteFunc_impl_Tok_b4 : HCode := (.seq (.reg [⟨some 36, .mov (.t 0), none⟩, ⟨some 37, .mov (.t 5), none⟩, ⟨some 38, .slice 4 (.t 36) (some (.t 37)) none none, none⟩, ⟨none, .clr 4 (.agg [(.int .i64 0), (.str ⟨⟨[]⟩⟩), (.int .i64 0), (.int .i64 0)]) (.t 38), none⟩]) slices_DeleteFunc_impl_Tok_b5)
def slices_DeleteFunc_impl_Tok_b9 : HCode := (.reg [⟨some 20, .mov (.t 6), none⟩, ⟨some 21, .bin .add (.t 20) (.c (.int .i64 1)), none⟩, ⟨some 6, .mov (.t 21), none⟩])
def slices_DeleteFunc_impl_Tok_b13 : HCode := (.reg [⟨some 34, .mov (.t 5), none⟩, ⟨some 35, .bin .add (.t 34) (.c (.int .i64 1)), none⟩, ⟨some 5, .mov (.t 35), none⟩])
def slices_DeleteFunc_impl_Tok_b12 : HCode := (.seq (.reg [⟨some 30, .mov (.t 0), none⟩, ⟨some 31, .mov (.t 5), none⟩, ⟨some 32, .load true 4 (.t 7), none⟩, ⟨some 33, .iaddr 4 (.t 30) (.t 31), none⟩, ⟨none, .store 4 (.t 33) (.t 32), none⟩]) slices_DeleteFunc_impl_Tok_b13)
def slices_DeleteFunc_impl_Tok_b11 : HCode := (.cond (.t 29) slices_DeleteFunc_impl_Tok_b12 .skip)
def slices_DeleteFunc_impl_Tok_b10 : HCode := (.seq (.reg [⟨some 26, .mov (.t 1), none⟩, ⟨some 27, .load true 4 (.t 7), none⟩, ⟨some 28, .call (.t 26) [(.t 27)], none⟩, ⟨some 29, .not (.t 28), none⟩]) slices_DeleteFunc_impl_Tok_b11)
def slices_DeleteFunc_impl_Tok_b8 : HCode := (.seq (.block 1 (.seq (.reg [⟨some 22, .mov (.t 0), none⟩, ⟨some 23, .mov (.t 6), none⟩, ⟨some 24, .iaddr 4 (.t 22) (.t 23), none⟩, ⟨some 25, .load true 4 (.t 24), none⟩, ⟨some 7, .alloc (.agg [(.int .i64 0), (.str ⟨⟨[]⟩⟩), (.int .i64 0), (.int .i64 0)]), none⟩, ⟨none, .store 4 (.t 7) (.t 25), none⟩]) slices_DeleteFunc_impl_Tok_b10)) slices_DeleteFunc_impl_Tok_b9)
def slices_DeleteFunc_impl_Tok_b14 : HCode := (.cond (.t 19) .skip (.exit 0))
def slices_DeleteFunc_impl_Tok_l7 : HCode := (.seq (.seq (.reg [⟨some 16, .mov (.t 6), none⟩, ⟨some 17, .mov (.t 0), none⟩, ⟨some 18, .len (.t 17), none⟩, ⟨some 19, .bin .lss (.t 16) (.t 18), none⟩]) slices_DeleteFunc_impl_Tok_b14) slices_DeleteFunc_impl_Tok_b8)
def slices_DeleteFunc_impl_Tok_b6 : HCode := (.block 0 (.loop slices_DeleteFunc_impl_Tok_l7))
def slices_DeleteFunc_impl_Tok_b3 : HCode := (.seq (.seq (.reg [⟨some 14, .mov (.t 5), none⟩, ⟨some 15, .bin .add (.t 14) (.c (.int .i64 1)), none⟩, ⟨some 6, .mov (.t 15), none⟩]) slices_DeleteFunc_impl_Tok_b6) slices_DeleteFunc_impl_Tok_b4)
def slices_DeleteFunc_impl_Tok_b16 : HCode := (.seq (.reg [⟨some 13, .mov (.t 0), none⟩, ⟨some 4, .mov (.t 13), none⟩]) .ret)
def slices_DeleteFunc_impl_Tok_b15 : HCode := (.cond (.t 12) slices_DeleteFunc_impl_Tok_b16 .skip)
def slices_DeleteFunc_impl_Tok_b2 : HCode := (.seq (.seq (.reg [⟨some 11, .mov (.t 5), none⟩, ⟨some 12, .bin .eql (.t 11) (.c (.int .i64 (-1))), none⟩]) slices_DeleteFunc_impl_Tok_b15) slices_DeleteFunc_impl_Tok_b3)
def slices_DeleteFunc_impl_Tok_b1 : HCode := (.seq (.reg [⟨some 8, .mov (.t 0), none⟩, ⟨some 9, .mov (.t 1), none⟩, ⟨some 10, .call (.c (.fn F.slices_IndexFunc_impl_Tok [] [])) [(.t 8), (.t 9)], none⟩, ⟨some 5, .mov (.t 10), none⟩]) slices_DeleteFunc_impl_Tok_b2)
def slices_DeleteFunc_impl_Tok_b0 : HCode := (.seq (.reg [⟨some 4, .mov (.c .nils), none⟩]) slices_DeleteFunc_impl_Tok_b1)
def slices_DeleteFunc_impl_Tok : HFunc := { np := 2, ntmps := 42, results := [(4, none)], body := slices_DeleteFunc_impl_Tok_b0 }
def slices_Clone_impl_Tok_b2 : HCode := (.seq (.reg [⟨some 5, .bslice 4 0 [(.int .i64 0), (.str ⟨⟨[]⟩⟩), (.int .i64 0), (.int .i64 0)] [], none⟩, ⟨some 6, .mov (.t 0), none⟩, ⟨some 7, .append 4 40 (.t 5) (.t 6), none⟩, ⟨some 2, .mov (.t 7), none⟩]) .ret)
def slices_Clone_impl_Tok_b4 : HCode := (.seq (.reg [⟨some 2, .mov (.c .nils), none⟩]) .ret)
def slices_Clone_impl_Tok_b3 : HCode := (.cond (.t 4) slices_Clone_impl_Tok_b4 .skip)
def slices_Clone_impl_Tok_b1 : HCode := (.seq (.seq (.reg [⟨some 3, .mov (.t 0), none⟩, ⟨some 4, .snil false (.t 3), none⟩]) slices_Clone_impl_Tok_b3) slices_Clone_impl_Tok_b2)
def slices_Clone_impl_Tok_b0 : HCode := (.seq (.reg [⟨some 2, .mov (.c .nils), none⟩]) slices_Clone_impl_Tok_b1)
def slices_Clone_impl_Tok : HFunc := { np := 1, ntmps := 8, results := [(2, none)], body := slices_Clone_impl_Tok_b0 }
def impl_Blocks_b1 : HCode := (.seq (.reg [⟨some 3, .mov (.t 0), none⟩, ⟨some 4, .call (.c (.fn F.slices_Clone_impl_Tok [] [])) [(.t 3)], none⟩, ⟨some 5, .call (.c (.fn F.slices_DeleteFunc_impl_Tok [] [])) [(.t 4), (.c (.fn F.impl_Blocks_1 [] []))], none⟩, ⟨some 6, .len (.t 5), none⟩, ⟨some 2, .mov (.t 6), none⟩]) .ret)
def impl_Blocks_b0 : HCode := (.seq (.reg [⟨some 2, .mov (.c (.int .i64 0)), none⟩]) impl_Blocks_b1)
def impl_Blocks : HFunc := { np := 1, ntmps := 7, results := [(2, none)], body := impl_Blocks_b0 }
def laws_eqTok_b5 : HCode := (.seq (.reg [⟨some 4, .mov (.c (.bool true)), none⟩]) .ret)
def laws_eqTok_b7 : HCode := (.seq (.reg [⟨some 4, .mov (.c (.bool false)), none⟩]) .ret)
def laws_eqTok_b6 : HCode := (.cond (.t 24) laws_eqTok_b7 .skip)
def laws_eqTok_b4 : HCode := (.seq (.seq (.reg [⟨some 20, .faddr 3 (.t 2), none⟩, ⟨some 21, .load false 1 (.t 20), none⟩, ⟨some 22, .faddr 3 (.t 3), none⟩, ⟨some 23, .load false 1 (.t 22), none⟩, ⟨some 24, .bin .neq (.t 21) (.t 23), none⟩]) laws_eqTok_b6) laws_eqTok_b5)
def laws_eqTok_b9 : HCode := (.seq (.reg [⟨some 4, .mov (.c (.bool false)), none⟩]) .ret)
def laws_eqTok_b8 : HCode := (.cond (.t 19) laws_eqTok_b9 .skip)
def laws_eqTok_b3 : HCode := (.seq (.seq (.reg [⟨some 15, .faddr 2 (.t 2), none⟩, ⟨some 16, .load false 1 (.t 15), none⟩, ⟨some 17, .faddr 2 (.t 3), none⟩, ⟨some 18, .load false 1 (.t 17), none⟩, ⟨some 19, .bin .neq (.t 16) (.t 18), none⟩]) laws_eqTok_b8) laws_eqTok_b4)
def laws_eqTok_b11 : HCode := (.seq (.reg [⟨some 4, .mov (.c (.bool false)), none⟩]) .ret)
def laws_eqTok_b10 : HCode := (.cond (.t 14) laws_eqTok_b11 .skip)
def laws_eqTok_b2 : HCode := (.seq (.seq (.reg [⟨some 10, .faddr 1 (.t 2), none⟩, ⟨some 11, .load false 1 (.t 10), none⟩, ⟨some 12, .faddr 1 (.t 3), none⟩, ⟨some 13, .load false 1 (.t 12), none⟩, ⟨some 14, .bin .neq (.t 11) (.t 13), none⟩]) laws_eqTok_b10) laws_eqTok_b3)
def laws_eqTok_b13 : HCode := (.seq (.reg [⟨some 4, .mov (.c (.bool false)), none⟩]) .ret)
def laws_eqTok_b12 : HCode := (.cond (.t 9) laws_eqTok_b13 .skip)
def laws_eqTok_b1 : HCode := (.seq (.seq (.reg [⟨some 5, .faddr 0 (.t 2), none⟩, ⟨some 6, .load false 1 (.t 5), none⟩, ⟨some 7, .faddr 0 (.t 3), none⟩, ⟨some 8, .load false 1 (.t 7), none⟩, ⟨some 9, .bin .neq (.t 6) (.t 8), none⟩]) laws_eqTok_b12) laws_eqTok_b2)
def laws_eqTok_b0 : HCode := (.seq (.reg [⟨some 2, .box (.t 0), none⟩, ⟨some 3, .box (.t 1), none⟩, ⟨some 4, .mov (.c (.bool false)), none⟩]) laws_eqTok_b1)
def laws_eqTok : HFunc := { np := 2, ntmps := 25, results := [(4, none)], body := laws_eqTok_b0 }
def laws_eqTokS_b3 : HCode := (.seq (.reg [⟨some 4, .mov (.c (.bool true)), none⟩]) .ret)
def laws_eqTokS_b7 : HCode := (.reg [⟨some 15, .mov (.t 5), none⟩, ⟨some 16, .bin .add (.t 15) (.c (.int .i64 1)), none⟩, ⟨some 5, .mov (.t 16), none⟩])
def laws_eqTokS_b9 : HCode := (.seq (.reg [⟨some 4, .mov (.c (.bool false)), none⟩]) .ret)
def laws_eqTokS_b8 : HCode := (.cond (.t 26) laws_eqTokS_b9 .skip)
def laws_eqTokS_b6 : HCode := (.seq (.block 1 (.seq (.dreg (.q ⟨some 17, .mov (.t 0), none⟩ (.q ⟨some 18, .mov (.t 5), none⟩ (.q ⟨some 19, .iaddr 4 (.t 17) (.t 18), none⟩ (.q ⟨some 20, .load true 4 (.t 19), none⟩ (.q ⟨some 21, .mov (.t 1), none⟩ (.q ⟨some 22, .mov (.t 5), none⟩ (.q ⟨some 23, .iaddr 4 (.t 21) (.t 22), none⟩ (.q ⟨some 24, .load true 4 (.t 23), none⟩ (.l ⟨some 25, .call (.c (.fn F.laws_eqTok [] [])) [(.t 20), (.t 24)], none⟩ [] (.q ⟨some 26, .not (.t 25), none⟩ .done) .none)))))))))) laws_eqTokS_b8)) laws_eqTokS_b7)
def laws_eqTokS_b10 : HCode := (.cond (.t 14) .skip (.exit 0))
def laws_eqTokS_l5 : HCode := (.seq (.seq (.reg [⟨some 11, .mov (.t 5), none⟩, ⟨some 12, .mov (.t 0), none⟩, ⟨some 13, .len (.t 12), none⟩, ⟨some 14, .bin .lss (.t 11) (.t 13), none⟩]) laws_eqTokS_b10) laws_eqTokS_b6)
def laws_eqTokS_b4 : HCode := (.block 0 (.loop laws_eqTokS_l5))
def laws_eqTokS_b2 : HCode := (.seq (.seq (.reg [⟨some 5, .mov (.c (.int .i64 0)), none⟩]) laws_eqTokS_b4) laws_eqTokS_b3)
def laws_eqTokS_b12 : HCode := (.seq (.reg [⟨some 4, .mov (.c (.bool false)), none⟩]) .ret)
def laws_eqTokS_b11 : HCode := (.cond (.t 10) laws_eqTokS_b12 .skip)
def laws_eqTokS_b1 : HCode := (.seq (.seq (.reg [⟨some 6, .mov (.t 0), none⟩, ⟨some 7, .len (.t 6), none⟩, ⟨some 8, .mov (.t 1), none⟩, ⟨some 9, .len (.t 8), none⟩, ⟨some 10, .bin .neq (.t 7) (.t 9), none⟩]) laws_eqTokS_b11) laws_eqTokS_b2)
def laws_eqTokS_b0 : HCode := (.seq (.reg [⟨some 4, .mov (.c (.bool false)), none⟩]) laws_eqTokS_b1)
def laws_eqTokS : HFunc := { np := 2, ntmps := 27, results := [(4, none)], body := laws_eqTokS_b0 }
def laws_toTok_b6 : HCode := (.seq (.reg [⟨some 16, .load true 4 (.t 3), none⟩, ⟨none, .store 4 (.t 2) (.t 16), none⟩]) .ret)
def laws_toTok_b5 : HCode := (.seq (.reg [⟨some 13, .faddr 3 (.t 1), none⟩, ⟨some 14, .load false 1 (.t 13), none⟩, ⟨some 15, .faddr 3 (.t 3), none⟩, ⟨none, .store 1 (.t 15) (.t 14), none⟩]) laws_toTok_b6)
def laws_toTok_b4 : HCode := (.seq (.reg [⟨some 10, .faddr 2 (.t 1), none⟩, ⟨some 11, .load false 1 (.t 10), none⟩, ⟨some 12, .faddr 2 (.t 3), none⟩, ⟨none, .store 1 (.t 12) (.t 11), none⟩]) laws_toTok_b5)
def laws_toTok_b3 : HCode := (.seq (.reg [⟨some 7, .faddr 1 (.t 1), none⟩, ⟨some 8, .load false 1 (.t 7), none⟩, ⟨some 9, .faddr 1 (.t 3), none⟩, ⟨none, .store 1 (.t 9) (.t 8), none⟩]) laws_toTok_b4)
def laws_toTok_b2 : HCode := (.seq (.reg [⟨some 4, .faddr 0 (.t 1), none⟩, ⟨some 5, .load false 1 (.t 4), none⟩, ⟨some 6, .faddr 0 (.t 3), none⟩, ⟨none, .store 1 (.t 6) (.t 5), none⟩]) laws_toTok_b3)
def laws_toTok_b1 : HCode := (.seq (.reg [⟨some 3, .alloc (.agg [(.int .i64 0), (.str ⟨⟨[]⟩⟩), (.int .i64 0), (.int .i64 0)]), none⟩]) laws_toTok_b2)
def laws_toTok_b0 : HCode := (.seq (.reg [⟨some 1, .box (.t 0), none⟩, ⟨some 2, .alloc (.agg [(.int .i64 0), (.str ⟨⟨[]⟩⟩), (.int .i64 0), (.int .i64 0)]), none⟩]) laws_toTok_b1)
def laws_toTok : HFunc := { np := 1, ntmps := 17, results := [(2, some (true, 4))], body := laws_toTok_b0 }
def laws_toTokS_b3 : HCode := (.seq (.reg [⟨some 22, .mov (.t 3), none⟩, ⟨some 2, .mov (.t 22), none⟩]) .ret)
def laws_toTokS_b7 : HCode := (.reg [⟨some 12, .mov (.t 4), none⟩, ⟨some 13, .bin .add (.t 12) (.c (.int .i64 1)), none⟩, ⟨some 4, .mov (.t 13), none⟩])
def laws_toTokS_b6 : HCode := (.seq (.block 1 (.reg [⟨some 14, .mov (.t 3), none⟩, ⟨some 15, .mov (.t 4), none⟩, ⟨some 16, .mov (.t 0), none⟩, ⟨some 17, .mov (.t 4), none⟩, ⟨some 18, .iaddr 4 (.t 16) (.t 17), none⟩, ⟨some 19, .load true 4 (.t 18), none⟩, ⟨some 20, .call (.c (.fn F.laws_toTok [] [])) [(.t 19)], none⟩, ⟨some 21, .iaddr 4 (.t 14) (.t 15), none⟩, ⟨none, .store 4 (.t 21) (.t 20), none⟩])) laws_toTokS_b7)
def laws_toTokS_b8 : HCode := (.cond (.t 11) .skip (.exit 0))
def laws_toTokS_l5 : HCode := (.seq (.seq (.reg [⟨some 8, .mov (.t 4), none⟩, ⟨some 9, .mov (.t 0), none⟩, ⟨some 10, .len (.t 9), none⟩, ⟨some 11, .bin .lss (.t 8) (.t 10), none⟩]) laws_toTokS_b8) laws_toTokS_b6)
def laws_toTokS_b4 : HCode := (.block 0 (.loop laws_toTokS_l5))
def laws_toTokS_b2 : HCode := (.seq (.seq (.reg [⟨some 4, .mov (.c (.int .i64 0)), none⟩]) laws_toTokS_b4) laws_toTokS_b3)
def laws_toTokS_b1 : HCode := (.seq (.reg [⟨some 5, .mov (.t 0), none⟩, ⟨some 6, .len (.t 5), none⟩, ⟨some 7, .mkslice 4 40 (.agg [(.int .i64 0), (.str ⟨⟨[]⟩⟩), (.int .i64 0), (.int .i64 0)]) (.t 6) (.t 6), none⟩, ⟨some 3, .mov (.t 7), none⟩]) laws_toTokS_b2)
def laws_toTokS_b0 : HCode := (.seq (.reg [⟨some 2, .mov (.c .nils), none⟩]) laws_toTokS_b1)
def laws_toTokS : HFunc := { np := 1, ntmps := 23, results := [(2, none)], body := laws_toTokS_b0 }
def spec_l2Is_b1 : HCode := (.seq (.reg [⟨some 7, .faddr 0 (.t 3), none⟩, ⟨some 8, .load false 1 (.t 7), none⟩, ⟨some 9, .mov (.t 1), none⟩, ⟨some 10, .bin .eql (.t 8) (.t 9), none⟩, ⟨some 11, .mov (.t 10), none⟩, ⟨some 12, .faddr 1 (.t 3), some (11, true)⟩, ⟨some 13, .load false 1 (.t 12), some (11, true)⟩, ⟨some 14, .mov (.t 2), some (11, true)⟩, ⟨some 15, .bin .eql (.t 13) (.t 14), some (11, true)⟩, ⟨some 16, .pick (.t 11) (.t 15) (.c (.bool false)), none⟩, ⟨some 6, .mov (.t 16), none⟩]) .ret)
def spec_l2Is_b0 : HCode := (.seq (.reg [⟨some 3, .box (.t 0), none⟩, ⟨some 6, .mov (.c (.bool false)), none⟩]) spec_l2Is_b1)
def spec_l2Is : HFunc := { np := 3, ntmps := 17, results := [(6, none)], body := spec_l2Is_b0 }
def spec_Blocks_b3 : HCode := (.seq (.reg [⟨some 26, .mov (.t 3), none⟩, ⟨some 2, .mov (.t 26), none⟩]) .ret)
def spec_Blocks_b7 : HCode := (.reg [⟨some 9, .mov (.t 4), none⟩, ⟨some 10, .bin .add (.t 9) (.c (.int .i64 1)), none⟩, ⟨some 4, .mov (.t 10), none⟩])
def spec_Blocks_b9 : HCode := (.reg [⟨some 24, .mov (.t 3), none⟩, ⟨some 25, .bin .add (.t 24) (.c (.int .i64 1)), none⟩, ⟨some 3, .mov (.t 25), none⟩])
def spec_Blocks_b8 : HCode := (.cond (.t 23) spec_Blocks_b9 .skip)
def spec_Blocks_b6 : HCode := (.seq (.block 1 (.seq (.reg [⟨some 11, .mov (.t 0), none⟩, ⟨some 12, .mov (.t 4), none⟩, ⟨some 13, .iaddr 4 (.t 11) (.t 12), none⟩, ⟨some 14, .load true 4 (.t 13), none⟩, ⟨some 15, .call (.c (.fn F.spec_l2Is [] [])) [(.t 14), (.c (.int .i64 5)), (.c (.str ⟨⟨[123]⟩⟩))], none⟩, ⟨some 16, .mov (.t 15), none⟩, ⟨some 17, .mov (.t 0), some (16, true)⟩, ⟨some 18, .mov (.t 4), some (16, true)⟩, ⟨some 19, .iaddr 4 (.t 17) (.t 18), some (16, true)⟩, ⟨some 20, .faddr 2 (.t 19), some (16, true)⟩, ⟨some 21, .load false 1 (.t 20), some (16, true)⟩, ⟨some 22, .bin .eql (.t 21) (.c (.int .i64 0)), some (16, true)⟩, ⟨some 23, .pick (.t 16) (.t 22) (.c (.bool false)), none⟩]) spec_Blocks_b8)) spec_Blocks_b7)
def spec_Blocks_b10 : HCode := (.cond (.t 8) .skip (.exit 0))
def spec_Blocks_l5 : HCode := (.seq (.seq (.reg [⟨some 5, .mov (.t 4), none⟩, ⟨some 6, .mov (.t 0), none⟩, ⟨some 7, .len (.t 6), none⟩, ⟨some 8, .bin .lss (.t 5) (.t 7), none⟩]) spec_Blocks_b10) spec_Blocks_b6)
def spec_Blocks_b4 : HCode := (.block 0 (.loop spec_Blocks_l5))
def spec_Blocks_b2 : HCode := (.seq (.seq (.reg [⟨some 4, .mov (.c (.int .i64 0)), none⟩]) spec_Blocks_b4) spec_Blocks_b3)
def spec_Blocks_b1 : HCode := (.seq (.reg [⟨some 3, .mov (.c (.int .i64 0)), none⟩]) spec_Blocks_b2)
def spec_Blocks_b0 : HCode := (.seq (.reg [⟨some 2, .mov (.c (.int .i64 0)), none⟩]) spec_Blocks_b1)
def spec_Blocks : HFunc := { np := 1, ntmps := 27, results := [(2, none)], body := spec_Blocks_b0 }
def laws_szTok_b3 : HCode := (.seq (.reg [⟨some 12, .mov (.t 1), none⟩, ⟨some 4, .mov (.t 12), none⟩]) .ret)
def laws_szTok_b5 : HCode := (.seq (.reg [⟨some 4, .mov (.c (.int .i64 (-1))), none⟩]) .ret)
def laws_szTok_b4 : HCode := (.cond (.t 11) laws_szTok_b5 .skip)
def laws_szTok_b2 : HCode := (.seq (.seq (.reg [⟨some 10, .mov (.t 1), none⟩, ⟨some 11, .bin .lss (.t 10) (.c (.int .i64 0)), none⟩]) laws_szTok_b4) laws_szTok_b3)
def laws_szTok_b1 : HCode := (.seq (.reg [⟨some 5, .mov (.t 1), none⟩, ⟨some 6, .faddr 1 (.t 2), none⟩, ⟨some 7, .load false 1 (.t 6), none⟩, ⟨some 8, .slen (.t 7), none⟩, ⟨some 9, .bin .sub (.t 5) (.t 8), none⟩, ⟨some 1, .mov (.t 9), none⟩]) laws_szTok_b2)
def laws_szTok_b0 : HCode := (.seq (.reg [⟨some 2, .box (.t 0), none⟩, ⟨some 4, .mov (.c (.int .i64 0)), none⟩]) laws_szTok_b1)
def laws_szTok : HFunc := { np := 2, ntmps := 13, results := [(4, none)], body := laws_szTok_b0 }
def laws_szTokS_b4 : HCode := (.seq (.reg [⟨some 26, .mov (.t 1), none⟩, ⟨some 4, .mov (.t 26), none⟩]) .ret)
def laws_szTokS_b8 : HCode := (.reg [⟨some 16, .mov (.t 5), none⟩, ⟨some 17, .bin .add (.t 16) (.c (.int .i64 1)), none⟩, ⟨some 5, .mov (.t 17), none⟩])
def laws_szTokS_b11 : HCode := (.seq (.reg [⟨some 4, .mov (.c (.int .i64 (-1))), none⟩]) .ret)
def laws_szTokS_b10 : HCode := (.cond (.t 25) laws_szTokS_b11 .skip)
def laws_szTokS_b9 : HCode := (.seq (.reg [⟨some 24, .mov (.t 1), none⟩, ⟨some 25, .bin .lss (.t 24) (.c (.int .i64 0)), none⟩]) laws_szTokS_b10)
def laws_szTokS_b7 : HCode := (.seq (.block 1 (.seq (.reg [⟨some 18, .mov (.t 0), none⟩, ⟨some 19, .mov (.t 5), none⟩, ⟨some 20, .iaddr 4 (.t 18) (.t 19), none⟩, ⟨some 21, .load true 4 (.t 20), none⟩, ⟨some 22, .mov (.t 1), none⟩, ⟨some 23, .call (.c (.fn F.laws_szTok [] [])) [(.t 21), (.t 22)], none⟩, ⟨some 1, .mov (.t 23), none⟩]) laws_szTokS_b9)) laws_szTokS_b8)
def laws_szTokS_b12 : HCode := (.cond (.t 15) .skip (.exit 0))
def laws_szTokS_l6 : HCode := (.seq (.seq (.reg [⟨some 12, .mov (.t 5), none⟩, ⟨some 13, .mov (.t 0), none⟩, ⟨some 14, .len (.t 13), none⟩, ⟨some 15, .bin .lss (.t 12) (.t 14), none⟩]) laws_szTokS_b12) laws_szTokS_b7)
def laws_szTokS_b5 : HCode := (.block 0 (.loop laws_szTokS_l6))
def laws_szTokS_b3 : HCode := (.seq (.seq (.reg [⟨some 5, .mov (.c (.int .i64 0)), none⟩]) laws_szTokS_b5) laws_szTokS_b4)
def laws_szTokS_b14 : HCode := (.seq (.reg [⟨some 4, .mov (.c (.int .i64 (-1))), none⟩]) .ret)
def laws_szTokS_b13 : HCode := (.cond (.t 11) laws_szTokS_b14 .skip)
def laws_szTokS_b2 : HCode := (.seq (.seq (.reg [⟨some 10, .mov (.t 1), none⟩, ⟨some 11, .bin .lss (.t 10) (.c (.int .i64 0)), none⟩]) laws_szTokS_b13) laws_szTokS_b3)
def laws_szTokS_b1 : HCode := (.seq (.reg [⟨some 6, .mov (.t 1), none⟩, ⟨some 7, .mov (.t 0), none⟩, ⟨some 8, .len (.t 7), none⟩, ⟨some 9, .bin .sub (.t 6) (.t 8), none⟩, ⟨some 1, .mov (.t 9), none⟩]) laws_szTokS_b2)
def laws_szTokS_b0 : HCode := (.seq (.reg [⟨some 4, .mov (.c (.int .i64 0)), none⟩]) laws_szTokS_b1)
def laws_szTokS : HFunc := { np := 2, ntmps := 27, results := [(4, none)], body := laws_szTokS_b0 }
def laws_FnExactBlocks_b9 : HCode := (.seq (.reg [⟨some 2, .mov (.c (.bool true)), none⟩]) .ret)
def laws_FnExactBlocks_b11 : HCode := (.seq (.reg [⟨some 2, .mov (.c (.bool false)), none⟩]) .ret)
def laws_FnExactBlocks_b10 : HCode := (.cond (.t 26) laws_FnExactBlocks_b11 .skip)
def laws_FnExactBlocks_b8 : HCode := (.seq (.seq (.reg [⟨some 22, .mov (.t 5), none⟩, ⟨some 23, .mov (.t 0), none⟩, ⟨some 24, .call (.c (.fn F.laws_toTokS [] [])) [(.t 23)], none⟩, ⟨some 25, .call (.c (.fn F.laws_eqTokS [] [])) [(.t 22), (.t 24)], none⟩, ⟨some 26, .not (.t 25), none⟩]) laws_FnExactBlocks_b10) laws_FnExactBlocks_b9)
def laws_FnExactBlocks_b13 : HCode := (.seq (.reg [⟨some 2, .mov (.c (.bool false)), none⟩]) .ret)
def laws_FnExactBlocks_b12 : HCode := (.cond (.t 21) laws_FnExactBlocks_b13 .skip)
def laws_FnExactBlocks_b7 : HCode := (.seq (.seq (.reg [⟨some 19, .mov (.t 6), none⟩, ⟨some 20, .mov (.t 4), none⟩, ⟨some 21, .bin .neq (.t 19) (.t 20), none⟩]) laws_FnExactBlocks_b12) laws_FnExactBlocks_b8)
def laws_FnExactBlocks_b6 : HCode := (.seq (.reg [⟨some 17, .mov (.t 5), none⟩, ⟨some 18, .call (.c (.fn F.impl_Blocks [] [])) [(.t 17)], none⟩, ⟨some 6, .mov (.t 18), none⟩]) laws_FnExactBlocks_b7)
def laws_FnExactBlocks_b5 : HCode := (.seq (.reg [⟨some 15, .mov (.t 0), none⟩, ⟨some 16, .call (.c (.fn F.laws_toTokS [] [])) [(.t 15)], none⟩, ⟨some 5, .mov (.t 16), none⟩]) laws_FnExactBlocks_b6)
def laws_FnExactBlocks_b4 : HCode := (.seq (.reg [⟨some 12, .mov (.t 0), none⟩, ⟨some 13, .call (.c (.fn F.laws_toTokS [] [])) [(.t 12)], none⟩, ⟨some 14, .call (.c (.fn F.spec_Blocks [] [])) [(.t 13)], none⟩, ⟨some 4, .mov (.t 14), none⟩]) laws_FnExactBlocks_b5)
def laws_FnExactBlocks_b15 : HCode := (.seq (.reg [⟨some 2, .mov (.c (.bool true)), none⟩]) .ret)
def laws_FnExactBlocks_b14 : HCode := (.cond (.t 11) laws_FnExactBlocks_b15 .skip)
def laws_FnExactBlocks_b3 : HCode := (.seq (.seq (.reg [⟨some 10, .mov (.t 3), none⟩, ⟨some 11, .bin .lss (.t 10) (.c (.int .i64 0)), none⟩]) laws_FnExactBlocks_b14) laws_FnExactBlocks_b4)
def laws_FnExactBlocks_b2 : HCode := (.seq (.reg [⟨some 7, .mov (.t 0), none⟩, ⟨some 8, .mov (.t 3), none⟩, ⟨some 9, .call (.c (.fn F.laws_szTokS [] [])) [(.t 7), (.t 8)], none⟩, ⟨some 3, .mov (.t 9), none⟩]) laws_FnExactBlocks_b3)
def laws_FnExactBlocks_b1 : HCode := (.seq (.reg [⟨some 3, .mov (.c (.int .i64 1048576)), none⟩]) laws_FnExactBlocks_b2)
def laws_FnExactBlocks_b0 : HCode := (.seq (.reg [⟨some 2, .mov (.c (.bool false)), none⟩]) laws_FnExactBlocks_b1)
def laws_FnExactBlocks : HFunc := { np := 1, ntmps := 27, results := [(2, none)], body := laws_FnExactBlocks_b0 }
end H
namespace S
noncomputable abbrev P : Program := Go.Proofs.Try.prog
theorem impl_isMark : stripF P F.impl_isMark = some H.impl_isMark := by kernel_rfl
theorem impl_Blocks_1 : stripF P F.impl_Blocks_1 = some H.impl_Blocks_1 := by kernel_rfl
theorem slices_IndexFunc_impl_Tok : stripF P F.slices_IndexFunc_impl_Tok = some H.slices_IndexFunc_impl_Tok := by kernel_rfl
theorem slices_DeleteFunc_impl_Tok : stripF P F.slices_DeleteFunc_impl_Tok = some H.slices_DeleteFunc_impl_Tok := by kernel_rfl
theorem slices_Clone_impl_Tok : stripF P F.slices_Clone_impl_Tok = some H.slices_Clone_impl_Tok := by kernel_rfl
theorem impl_Blocks : stripF P F.impl_Blocks = some H.impl_Blocks := by kernel_rfl
theorem laws_eqTok : stripF P F.laws_eqTok = some H.laws_eqTok := by kernel_rfl
theorem laws_eqTokS : stripF P F.laws_eqTokS = some H.laws_eqTokS := by kernel_rfl
theorem laws_toTok : stripF P F.laws_toTok = some H.laws_toTok := by kernel_rfl
theorem laws_toTokS : stripF P F.laws_toTokS = some H.laws_toTokS := by kernel_rfl
theorem spec_l2Is : stripF P F.spec_l2Is = some H.spec_l2Is := by kernel_rfl
theorem spec_Blocks : stripF P F.spec_Blocks = some H.spec_Blocks := by kernel_rfl
theorem laws_szTok : stripF P F.laws_szTok = some H.laws_szTok := by kernel_rfl
theorem laws_szTokS : stripF P F.laws_szTokS = some H.laws_szTokS := by kernel_rfl
theorem laws_FnExactBlocks : stripF P F.laws_FnExactBlocks = some H.laws_FnExactBlocks := by kernel_rfl
end S
end W
