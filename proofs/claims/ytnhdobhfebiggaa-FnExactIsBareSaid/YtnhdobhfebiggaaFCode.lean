import Derived.Test.YtnhdobhfebiggaaHLVc
import Derived.KernelRfl
import Derived.Test.YtnhdobhfebiggaaProg
namespace W
open Go HL
set_option maxRecDepth 1000000
namespace F
abbrev main_main : Nat := 0
abbrev gosem_cut : Nat := 1
abbrev gosem_cut_init : Nat := 2
abbrev laws_FnExactSameTy : Nat := 3
abbrev laws_FnExactBlocks : Nat := 4
abbrev laws_FnExactVarsOf : Nat := 5
abbrev laws_FnExactLex : Nat := 6
abbrev laws_FnExactSameExp : Nat := 7
abbrev laws_FnExactIsBare : Nat := 8
abbrev laws_FnLex : Nat := 9
abbrev laws_FnExactDataOf : Nat := 10
abbrev laws_FnExactArityOf : Nat := 11
abbrev laws_FnExactSameProg : Nat := 12
abbrev laws_szTy : Nat := 13
abbrev spec_SameTy : Nat := 14
abbrev laws_toTy : Nat := 15
abbrev impl_SameTy : Nat := 16
abbrev laws_eqTy : Nat := 17
abbrev laws_szTokS : Nat := 18
abbrev spec_Blocks : Nat := 19
abbrev laws_toTokS : Nat := 20
abbrev impl_Blocks : Nat := 21
abbrev laws_eqTokS : Nat := 22
abbrev spec_VarsOf : Nat := 23
abbrev impl_VarsOf : Nat := 24
abbrev laws_eqIntS : Nat := 25
abbrev laws_markTy : Nat := 26
abbrev laws_markIntS : Nat := 27
abbrev laws_heldIntS : Nat := 28
abbrev spec_Lex : Nat := 29
abbrev impl_Lex : Nat := 30
abbrev laws_markTokS : Nat := 31
abbrev laws_heldTokS : Nat := 32
abbrev laws_szExp : Nat := 33
abbrev spec_SameExp : Nat := 34
abbrev laws_toExp : Nat := 35
abbrev impl_SameExp : Nat := 36
abbrev laws_eqExp : Nat := 37
abbrev spec_IsBare : Nat := 38
abbrev impl_IsBare : Nat := 39
abbrev laws_big : Nat := 40
abbrev spec_DrawLex : Nat := 41
abbrev spec_DrawNameOk : Nat := 42
abbrev spec_DrawGreatOk : Nat := 43
abbrev laws_sameToks : Nat := 44
abbrev impl_NameOk : Nat := 45
abbrev spec_NameOk : Nat := 46
abbrev impl_GreatOk : Nat := 47
abbrev spec_GreatOk : Nat := 48
abbrev impl_TokText : Nat := 49
abbrev laws_szProg : Nat := 50
abbrev spec_DataOf : Nat := 51
abbrev laws_toProg : Nat := 52
abbrev impl_DataOf : Nat := 53
abbrev laws_eqProg : Nat := 54
abbrev spec_ArityOf : Nat := 55
abbrev impl_ArityOf : Nat := 56
abbrev spec_SameProg : Nat := 57
abbrev impl_SameProg : Nat := 58
abbrev laws_szTyS : Nat := 59
abbrev laws_toTyS : Nat := 60
abbrev slices_EqualFunc_impl_Ty : Nat := 61
abbrev laws_eqTyS : Nat := 62
abbrev laws_szTok : Nat := 63
abbrev spec_l2Is : Nat := 64
abbrev laws_toTok : Nat := 65
abbrev slices_DeleteFunc_impl_Tok : Nat := 66
abbrev slices_Clone_impl_Tok : Nat := 67
abbrev impl_Blocks_1 : Nat := 68
abbrev impl_isMark : Nat := 69
abbrev laws_eqTok : Nat := 70
abbrev spec_l9Vars : Nat := 71
abbrev impl_varsIn : Nat := 72
abbrev laws_markTyS : Nat := 73
abbrev spec_l1Skip : Nat := 74
abbrev spec_l1Next : Nat := 75
abbrev spec_l1Place : Nat := 76
abbrev impl_passed : Nat := 77
abbrev impl_nextTok : Nat := 78
abbrev laws_markText : Nat := 79
abbrev laws_szExpS : Nat := 80
abbrev laws_szDecS : Nat := 81
abbrev laws_szAltS : Nat := 82
abbrev spec_l3SameDecs : Nat := 83
abbrev spec_l3SameTexts : Nat := 84
abbrev laws_toExpS : Nat := 85
abbrev laws_toDecS : Nat := 86
abbrev laws_toAltS : Nat := 87
abbrev slices_EqualFunc_impl_Exp : Nat := 88
abbrev slices_EqualFunc_impl_Dec : Nat := 89
abbrev impl_sameDec : Nat := 90
abbrev slices_EqualFunc_impl_Alt : Nat := 91
abbrev impl_sameAlt : Nat := 92
abbrev laws_eqExpS : Nat := 93
abbrev laws_eqDecS : Nat := 94
abbrev laws_eqAltS : Nat := 95
abbrev spec_l11Is : Nat := 96
abbrev impl_counted : Nat := 97
abbrev impl_IsBare_1 : Nat := 98
abbrev slices_ContainsFunc_impl_Dec : Nat := 99
abbrev impl_IsBare_1_1 : Nat := 100
abbrev spec_l1New : Nat := 101
abbrev spec_l1Text : Nat := 102
abbrev spec_l1Below : Nat := 103
abbrev spec_l1Str : Nat := 104
abbrev spec_l1Prog : Nat := 105
abbrev spec_l1Once : Nat := 106
abbrev impl_wordLike : Nat := 107
abbrev slices_Contains_string : Nat := 108
abbrev impl_words : Nat := 109
abbrev spec_l1Letters : Nat := 110
abbrev spec_l1Small : Nat := 111
abbrev spec_l1IsWord : Nat := 112
abbrev spec_l1Large : Nat := 113
abbrev strings_Join : Nat := 114
abbrev laws_szDataS : Nat := 115
abbrev laws_toDataS : Nat := 116
abbrev impl_isBool : Nat := 117
abbrev impl_conOf : Nat := 118
abbrev laws_eqDataS : Nat := 119
abbrev spec_l3SameData : Nat := 120
abbrev slices_EqualFunc_impl_Data : Nat := 121
abbrev impl_sameData : Nat := 122
abbrev slices_IndexFunc_impl_Tok : Nat := 123
abbrev spec_l9Has : Nat := 124
abbrev slices_Contains_int : Nat := 125
abbrev spec_l1Digit : Nat := 126
abbrev spec_l1NumOk : Nat := 127
abbrev spec_l1Letter : Nat := 128
abbrev spec_l1Kind : Nat := 129
abbrev spec_l1Has : Nat := 130
abbrev strings_HasPrefix : Nat := 131
abbrev impl_runLen : Nat := 132
abbrev impl_passed_1 : Nat := 133
abbrev impl_isLetter : Nat := 134
abbrev impl_nextTok_1 : Nat := 135
abbrev impl_isDigit : Nat := 136
abbrev impl_numberLike : Nat := 137
abbrev slices_Contains_byte : Nat := 138
abbrev laws_szDec : Nat := 139
abbrev laws_szAlt : Nat := 140
abbrev laws_toDec : Nat := 141
abbrev laws_toAlt : Nat := 142
abbrev slices_Equal_string : Nat := 143
abbrev laws_eqDec : Nat := 144
abbrev laws_eqAlt : Nat := 145
abbrev impl_mapped : Nat := 146
abbrev impl_counted_1 : Nat := 147
abbrev slices_IndexFunc_impl_Dec : Nat := 148
abbrev spec_l1Word : Nat := 149
abbrev spec_l1Byte : Nat := 150
abbrev impl_in : Nat := 151
abbrev slices_Index_string : Nat := 152
abbrev spec_l1In : Nat := 153
abbrev strings_Builder_Grow : Nat := 154
abbrev strings_Builder_WriteString : Nat := 155
abbrev strings_Builder_String : Nat := 156
abbrev laws_szData : Nat := 157
abbrev laws_toData : Nat := 158
abbrev laws_eqData : Nat := 159
abbrev slices_EqualFunc_impl_Con : Nat := 160
abbrev impl_sameCon : Nat := 161
abbrev slices_Index_int : Nat := 162
abbrev internal_stringslite_HasPrefix : Nat := 163
abbrev slices_Index_byte : Nat := 164
abbrev laws_szStringS : Nat := 165
abbrev laws_toStringS : Nat := 166
abbrev laws_eqStringS : Nat := 167
abbrev impl_mappedDecs : Nat := 168
abbrev slices_Clone_string : Nat := 169
abbrev strings_Builder_copyCheck : Nat := 170
abbrev strings_Builder_grow : Nat := 171
abbrev laws_szConS : Nat := 172
abbrev laws_toConS : Nat := 173
abbrev laws_eqConS : Nat := 174
abbrev internal_abi_NoEscape : Nat := 175
abbrev internal_bytealg_MakeNoZero : Nat := 176
abbrev laws_szCon : Nat := 177
abbrev laws_toCon : Nat := 178
abbrev laws_eqCon : Nat := 179
abbrev runtime_boundsError_Error : Nat := 180
abbrev runtime_boundsError_RuntimeError : Nat := 181
abbrev runtime_errorString_Error : Nat := 182
abbrev runtime_errorString_RuntimeError : Nat := 183
abbrev runtime_plainError_Error : Nat := 184
abbrev runtime_plainError_RuntimeError : Nat := 185
abbrev runtime_errorAddressString_Error : Nat := 186
abbrev runtime_errorAddressString_RuntimeError : Nat := 187
abbrev runtime_TypeAssertionError_Error : Nat := 188
abbrev runtime_TypeAssertionError_RuntimeError : Nat := 189
abbrev runtime_PanicNilError_Error : Nat := 190
abbrev runtime_PanicNilError_RuntimeError : Nat := 191
abbrev internal_abi_Type_Align : Nat := 192
abbrev internal_runtime_maps_unhashableTypeError_Error : Nat := 193
abbrev internal_runtime_maps_unhashableTypeError_RuntimeError : Nat := 194
abbrev strings_Builder_Reset : Nat := 195
abbrev internal_abi_Kind_String : Nat := 196
end F
namespace H
def slices_Clone_string_b2 : HCode := (.seq (.reg [⟨some 5, .bslice 1 0 [(.str ⟨⟨[]⟩⟩)] [], none⟩, ⟨some 6, .mov (.t 0), none⟩, ⟨some 7, .append 1 16 (.t 5) (.t 6), none⟩, ⟨some 2, .mov (.t 7), none⟩]) .ret)
def slices_Clone_string_b4 : HCode := (.seq (.reg [⟨some 2, .mov (.c .nils), none⟩]) .ret)
def slices_Clone_string_b3 : HCode := (.cond (.t 4) slices_Clone_string_b4 .skip)
def slices_Clone_string_b1 : HCode := (.seq (.seq (.reg [⟨some 3, .mov (.t 0), none⟩, ⟨some 4, .snil false (.t 3), none⟩]) slices_Clone_string_b3) slices_Clone_string_b2)
def slices_Clone_string_b0 : HCode := (.seq (.reg [⟨some 2, .mov (.c .nils), none⟩]) slices_Clone_string_b1)
def slices_Clone_string : HFunc := { np := 1, ntmps := 8, results := [(2, none)], body := slices_Clone_string_b0 }
def impl_IsBare_1_1_b1 : HCode := (.seq (.reg [⟨some 3, .faddr 1 (.t 1), none⟩, ⟨some 4, .load false 1 (.t 3), none⟩, ⟨some 5, .len (.t 4), none⟩, ⟨some 6, .bin .gtr (.t 5) (.c (.int .i64 0)), none⟩, ⟨some 7, .mov (.t 6), none⟩, ⟨some 8, .faddr 8 (.t 1), some (7, false)⟩, ⟨some 9, .load false 1 (.t 8), some (7, false)⟩, ⟨some 10, .len (.t 9), some (7, false)⟩, ⟨some 11, .bin .gtr (.t 10) (.c (.int .i64 0)), some (7, false)⟩, ⟨some 12, .pick (.t 7) (.c (.bool true)) (.t 11), none⟩, ⟨some 2, .mov (.t 12), none⟩]) .ret)
def impl_IsBare_1_1_b0 : HCode := (.seq (.reg [⟨some 1, .box (.t 0), none⟩, ⟨some 2, .mov (.c (.bool false)), none⟩]) impl_IsBare_1_1_b1)
def impl_IsBare_1_1 : HFunc := { np := 1, ntmps := 13, results := [(2, none)], body := impl_IsBare_1_1_b0 }
def slices_IndexFunc_impl_Dec_b2 : HCode := (.seq (.reg [⟨some 4, .mov (.c (.int .i64 (-1))), none⟩]) .ret)
def slices_IndexFunc_impl_Dec_b7 : HCode := (.reg [⟨some 18, .bin .add (.t 8) (.c (.int .i64 1)), none⟩, ⟨some 8, .mov (.t 18), none⟩])
def slices_IndexFunc_impl_Dec_b10 : HCode := (.seq (.reg [⟨some 17, .mov (.t 5), none⟩, ⟨some 4, .mov (.t 17), none⟩]) .ret)
def slices_IndexFunc_impl_Dec_b9 : HCode := (.cond (.t 16) slices_IndexFunc_impl_Dec_b10 .skip)
def slices_IndexFunc_impl_Dec_b8 : HCode := (.seq (.reg [⟨some 11, .mov (.t 1), none⟩, ⟨some 12, .mov (.t 0), none⟩, ⟨some 13, .mov (.t 5), none⟩, ⟨some 14, .iaddr 9 (.t 12) (.t 13), none⟩, ⟨some 15, .load true 9 (.t 14), none⟩, ⟨some 16, .call (.t 11) [(.t 15)], none⟩]) slices_IndexFunc_impl_Dec_b9)
def slices_IndexFunc_impl_Dec_b6 : HCode := (.seq (.block 1 (.seq (.reg [⟨some 10, .mov (.t 8), none⟩, ⟨some 5, .mov (.t 10), none⟩]) slices_IndexFunc_impl_Dec_b8)) slices_IndexFunc_impl_Dec_b7)
def slices_IndexFunc_impl_Dec_b5 : HCode := (.seq (.cond (.t 9) .skip (.exit 0)) slices_IndexFunc_impl_Dec_b6)
def slices_IndexFunc_impl_Dec_l4 : HCode := (.seq (.reg [⟨some 9, .bin .lss (.t 8) (.t 7), none⟩]) slices_IndexFunc_impl_Dec_b5)
def slices_IndexFunc_impl_Dec_b3 : HCode := (.block 0 (.loop slices_IndexFunc_impl_Dec_l4))
def slices_IndexFunc_impl_Dec_b1 : HCode := (.seq (.seq (.reg [⟨some 6, .mov (.t 0), none⟩, ⟨some 7, .len (.t 6), none⟩, ⟨some 8, .mov (.c (.int .i64 0)), none⟩]) slices_IndexFunc_impl_Dec_b3) slices_IndexFunc_impl_Dec_b2)
def slices_IndexFunc_impl_Dec_b0 : HCode := (.seq (.reg [⟨some 4, .mov (.c (.int .i64 0)), none⟩]) slices_IndexFunc_impl_Dec_b1)
def slices_IndexFunc_impl_Dec : HFunc := { np := 2, ntmps := 19, results := [(4, none)], body := slices_IndexFunc_impl_Dec_b0 }
def slices_ContainsFunc_impl_Dec_b1 : HCode := (.seq (.reg [⟨some 5, .mov (.t 0), none⟩, ⟨some 6, .mov (.t 1), none⟩, ⟨some 7, .call (.c (.fn F.slices_IndexFunc_impl_Dec [] [])) [(.t 5), (.t 6)], none⟩, ⟨some 8, .bin .geq (.t 7) (.c (.int .i64 0)), none⟩, ⟨some 4, .mov (.t 8), none⟩]) .ret)
def slices_ContainsFunc_impl_Dec_b0 : HCode := (.seq (.reg [⟨some 4, .mov (.c (.bool false)), none⟩]) slices_ContainsFunc_impl_Dec_b1)
def slices_ContainsFunc_impl_Dec : HFunc := { np := 2, ntmps := 9, results := [(4, none)], body := slices_ContainsFunc_impl_Dec_b0 }
def impl_IsBare_1_b1 : HCode := (.seq (.reg [⟨some 3, .faddr 4 (.t 1), none⟩, ⟨some 4, .load false 1 (.t 3), none⟩, ⟨some 5, .call (.c (.fn F.slices_ContainsFunc_impl_Dec [] [])) [(.t 4), (.c (.fn F.impl_IsBare_1_1 [] []))], none⟩, ⟨some 2, .mov (.t 5), none⟩]) .ret)
def impl_IsBare_1_b0 : HCode := (.seq (.reg [⟨some 1, .box (.t 0), none⟩, ⟨some 2, .mov (.c (.bool false)), none⟩]) impl_IsBare_1_b1)
def impl_IsBare_1 : HFunc := { np := 1, ntmps := 6, results := [(2, none)], body := impl_IsBare_1_b0 }
def impl_counted_1_b2 : HCode := (.seq (.reg [⟨some 10, .load true 6 (.t 3), none⟩, ⟨none, .store 6 (.t 4) (.t 10), none⟩]) .ret)
def impl_counted_1_b1 : HCode := (.seq (.dreg (.q ⟨some 5, .load false 1 (.t 1), none⟩ (.q ⟨some 6, .load true 6 (.t 3), none⟩ (.q ⟨some 7, .load false 1 (.t 2), none⟩ (.l ⟨some 8, .call (.c (.fn F.impl_counted [] [])) [(.t 6), (.t 7)], none⟩ [⟨some 5, .load false 1 (.t 1), none⟩] (.q ⟨some 9, .bin .add (.t 5) (.t 8), none⟩ (.l ⟨none, .store 1 (.t 1) (.t 9), none⟩ [] .done .none)) .none))))) impl_counted_1_b2)
def impl_counted_1_b0 : HCode := (.seq (.reg [⟨some 3, .box (.t 0), none⟩, ⟨some 4, .alloc (.agg [(.int .i64 0), (.str ⟨⟨[]⟩⟩), (.int .i64 0), .nils, .nils, .nils]), none⟩]) impl_counted_1_b1)
def impl_counted_1 : HFunc := { np := 1, ntmps := 11, results := [(4, some (true, 6))], body := impl_counted_1_b0 }
def impl_counted_b4 : HCode := (.seq (.reg [⟨some 12, .load false 1 (.t 5), none⟩, ⟨some 4, .mov (.t 12), none⟩]) .ret)
def impl_counted_b3 : HCode := (.seq (.reg [⟨some 9, .load true 6 (.t 2), none⟩, ⟨some 10, .mkfn F.impl_counted_1 [] [(.t 5), (.t 3)], none⟩, ⟨some 11, .call (.c (.fn F.impl_mapped [] [])) [(.t 9), (.t 10)], none⟩]) impl_counted_b4)
def impl_counted_b6 : HCode := (.reg [⟨none, .store 1 (.t 5) (.c (.int .i64 1)), none⟩])
def impl_counted_b5 : HCode := (.cond (.t 8) impl_counted_b6 .skip)
def impl_counted_b2 : HCode := (.seq (.seq (.reg [⟨some 6, .load false 1 (.t 3), none⟩, ⟨some 7, .load true 6 (.t 2), none⟩, ⟨some 8, .call (.t 6) [(.t 7)], none⟩]) impl_counted_b5) impl_counted_b3)
def impl_counted_b1 : HCode := (.seq (.reg [⟨some 5, .alloc (.int .i64 0), none⟩, ⟨none, .store 1 (.t 5) (.c (.int .i64 0)), none⟩]) impl_counted_b2)
def impl_counted_b0 : HCode := (.seq (.reg [⟨some 2, .box (.t 0), none⟩, ⟨some 3, .box (.t 1), none⟩, ⟨some 4, .mov (.c (.int .i64 0)), none⟩]) impl_counted_b1)
def impl_counted : HFunc := { np := 2, ntmps := 13, results := [(4, none)], body := impl_counted_b0 }
def impl_mappedDecs_b3 : HCode := (.seq (.reg [⟨some 32, .mov (.t 5), none⟩, ⟨some 4, .mov (.t 32), none⟩]) .ret)
def impl_mappedDecs_b8 : HCode := (.reg [⟨some 31, .bin .add (.t 10) (.c (.int .i64 1)), none⟩, ⟨some 10, .mov (.t 31), none⟩])
def impl_mappedDecs_b9 : HCode := (.dreg (.q ⟨some 14, .mov (.t 5), none⟩ (.q ⟨some 15, .faddr 0 (.t 7), none⟩ (.q ⟨some 16, .load false 1 (.t 15), none⟩ (.q ⟨some 17, .faddr 1 (.t 7), none⟩ (.q ⟨some 18, .load false 1 (.t 17), none⟩ (.q ⟨some 20, .mov (.t 1), none⟩ (.q ⟨some 21, .faddr 2 (.t 7), none⟩ (.q ⟨some 22, .load true 6 (.t 21), none⟩ (.q ⟨some 24, .faddr 8 (.t 7), none⟩ (.q ⟨some 25, .load false 1 (.t 24), none⟩ (.q ⟨some 26, .mov (.t 1), none⟩ (.l ⟨some 19, .call (.c (.fn F.slices_Clone_string [] [])) [(.t 18)], none⟩ [⟨some 26, .mov (.t 1), none⟩, ⟨some 25, .load false 1 (.t 24), none⟩, ⟨some 24, .faddr 8 (.t 7), none⟩, ⟨some 22, .load true 6 (.t 21), none⟩, ⟨some 21, .faddr 2 (.t 7), none⟩, ⟨some 20, .mov (.t 1), none⟩, ⟨some 16, .load false 1 (.t 15), none⟩, ⟨some 15, .faddr 0 (.t 7), none⟩, ⟨some 14, .mov (.t 5), none⟩] (.l ⟨some 23, .call (.t 20) [(.t 22)], none⟩ [⟨some 26, .mov (.t 1), none⟩, ⟨some 25, .load false 1 (.t 24), none⟩, ⟨some 24, .faddr 8 (.t 7), none⟩, ⟨some 16, .load false 1 (.t 15), none⟩, ⟨some 15, .faddr 0 (.t 7), none⟩, ⟨some 14, .mov (.t 5), none⟩] (.l ⟨some 27, .call (.c (.fn F.impl_mappedDecs [] [])) [(.t 25), (.t 26)], none⟩ [⟨some 16, .load false 1 (.t 15), none⟩, ⟨some 15, .faddr 0 (.t 7), none⟩, ⟨some 14, .mov (.t 5), none⟩] (.q ⟨some 28, .build [(.str ⟨⟨[]⟩⟩), .nils, (.int .i64 0), (.str ⟨⟨[]⟩⟩), (.int .i64 0), .nils, .nils, .nils, .nils] [(0, 1, (.t 16)), (1, 1, (.t 19)), (2, 6, (.t 23)), (8, 1, (.t 27))], none⟩ (.l ⟨some 29, .bslice 9 1 [(.str ⟨⟨[]⟩⟩), .nils, (.int .i64 0), (.str ⟨⟨[]⟩⟩), (.int .i64 0), .nils, .nils, .nils, .nils] [(0, (.t 28))], none⟩ [⟨some 14, .mov (.t 5), none⟩] (.l ⟨some 30, .append 9 168 (.t 14) (.t 29), none⟩ [] (.l ⟨some 5, .mov (.t 30), none⟩ [] .done .none) .none) .none)) .none) .none) .none)))))))))))))
def impl_mappedDecs_b7 : HCode := (.seq (.block 1 (.seq (.reg [⟨some 12, .iaddr 9 (.t 8) (.t 10), none⟩, ⟨some 13, .load true 9 (.t 12), none⟩, ⟨some 7, .alloc (.agg [(.str ⟨⟨[]⟩⟩), .nils, (.int .i64 0), (.str ⟨⟨[]⟩⟩), (.int .i64 0), .nils, .nils, .nils, .nils]), none⟩, ⟨none, .store 9 (.t 7) (.t 13), none⟩]) impl_mappedDecs_b9)) impl_mappedDecs_b8)
def impl_mappedDecs_b6 : HCode := (.seq (.cond (.t 11) .skip (.exit 0)) impl_mappedDecs_b7)
def impl_mappedDecs_l5 : HCode := (.seq (.reg [⟨some 11, .bin .lss (.t 10) (.t 9), none⟩]) impl_mappedDecs_b6)
def impl_mappedDecs_b4 : HCode := (.block 0 (.loop impl_mappedDecs_l5))
def impl_mappedDecs_b2 : HCode := (.seq (.seq (.reg [⟨some 8, .mov (.t 0), none⟩, ⟨some 9, .len (.t 8), none⟩, ⟨some 10, .mov (.c (.int .i64 0)), none⟩]) impl_mappedDecs_b4) impl_mappedDecs_b3)
def impl_mappedDecs_b1 : HCode := (.seq (.reg [⟨some 5, .mov (.c .nils), none⟩]) impl_mappedDecs_b2)
def impl_mappedDecs_b0 : HCode := (.seq (.reg [⟨some 4, .mov (.c .nils), none⟩]) impl_mappedDecs_b1)
def impl_mappedDecs : HFunc := { np := 2, ntmps := 33, results := [(4, none)], body := impl_mappedDecs_b0 }
def impl_mapped_b5 : HCode := (.seq (.reg [⟨some 61, .load true 6 (.t 5), none⟩, ⟨none, .store 6 (.t 4) (.t 61), none⟩]) .ret)
def impl_mapped_b10 : HCode := (.reg [⟨some 60, .bin .add (.t 41) (.c (.int .i64 1)), none⟩, ⟨some 41, .mov (.t 60), none⟩])
def impl_mapped_b11 : HCode := (.dreg (.q ⟨some 45, .faddr 5 (.t 5), none⟩ (.q ⟨some 46, .load false 1 (.t 45), none⟩ (.q ⟨some 47, .faddr 0 (.t 9), none⟩ (.q ⟨some 48, .load false 1 (.t 47), none⟩ (.q ⟨some 49, .faddr 1 (.t 9), none⟩ (.q ⟨some 50, .load false 1 (.t 49), none⟩ (.q ⟨some 52, .mov (.t 1), none⟩ (.q ⟨some 53, .faddr 2 (.t 9), none⟩ (.q ⟨some 54, .load true 6 (.t 53), none⟩ (.l ⟨some 51, .call (.c (.fn F.slices_Clone_string [] [])) [(.t 50)], none⟩ [⟨some 54, .load true 6 (.t 53), none⟩, ⟨some 53, .faddr 2 (.t 9), none⟩, ⟨some 52, .mov (.t 1), none⟩, ⟨some 48, .load false 1 (.t 47), none⟩, ⟨some 47, .faddr 0 (.t 9), none⟩, ⟨some 46, .load false 1 (.t 45), none⟩, ⟨some 45, .faddr 5 (.t 5), none⟩] (.l ⟨some 55, .call (.t 52) [(.t 54)], none⟩ [⟨some 48, .load false 1 (.t 47), none⟩, ⟨some 47, .faddr 0 (.t 9), none⟩, ⟨some 46, .load false 1 (.t 45), none⟩, ⟨some 45, .faddr 5 (.t 5), none⟩] (.q ⟨some 56, .build [(.str ⟨⟨[]⟩⟩), .nils, (.int .i64 0), (.str ⟨⟨[]⟩⟩), (.int .i64 0), .nils, .nils, .nils] [(0, 1, (.t 48)), (1, 1, (.t 51)), (2, 6, (.t 55))], none⟩ (.l ⟨some 57, .bslice 8 1 [(.str ⟨⟨[]⟩⟩), .nils, (.int .i64 0), (.str ⟨⟨[]⟩⟩), (.int .i64 0), .nils, .nils, .nils] [(0, (.t 56))], none⟩ [⟨some 46, .load false 1 (.t 45), none⟩, ⟨some 45, .faddr 5 (.t 5), none⟩] (.l ⟨some 58, .append 8 144 (.t 46) (.t 57), none⟩ [] (.q ⟨some 59, .faddr 5 (.t 5), none⟩ (.l ⟨none, .store 1 (.t 59) (.t 58), none⟩ [] .done .none)) .none) .none)) .none) .none)))))))))))
def impl_mapped_b9 : HCode := (.seq (.block 3 (.seq (.reg [⟨some 43, .iaddr 8 (.t 39) (.t 41), none⟩, ⟨some 44, .load true 8 (.t 43), none⟩, ⟨some 9, .alloc (.agg [(.str ⟨⟨[]⟩⟩), .nils, (.int .i64 0), (.str ⟨⟨[]⟩⟩), (.int .i64 0), .nils, .nils, .nils]), none⟩, ⟨none, .store 8 (.t 9) (.t 44), none⟩]) impl_mapped_b11)) impl_mapped_b10)
def impl_mapped_b8 : HCode := (.seq (.cond (.t 42) .skip (.exit 2)) impl_mapped_b9)
def impl_mapped_l7 : HCode := (.seq (.reg [⟨some 42, .bin .lss (.t 41) (.t 40), none⟩]) impl_mapped_b8)
def impl_mapped_b6 : HCode := (.block 2 (.loop impl_mapped_l7))
def impl_mapped_b4 : HCode := (.seq (.seq (.reg [⟨some 38, .faddr 5 (.t 2), none⟩, ⟨some 39, .load false 1 (.t 38), none⟩, ⟨some 40, .len (.t 39), none⟩, ⟨some 41, .mov (.c (.int .i64 0)), none⟩]) impl_mapped_b6) impl_mapped_b5)
def impl_mapped_b3 : HCode := (.seq (.reg [⟨some 33, .faddr 4 (.t 2), none⟩, ⟨some 34, .load false 1 (.t 33), none⟩, ⟨some 35, .mov (.t 1), none⟩, ⟨some 36, .call (.c (.fn F.impl_mappedDecs [] [])) [(.t 34), (.t 35)], none⟩, ⟨some 37, .faddr 4 (.t 5), none⟩, ⟨none, .store 1 (.t 37) (.t 36), none⟩]) impl_mapped_b4)
def impl_mapped_b16 : HCode := (.reg [⟨some 32, .bin .add (.t 20) (.c (.int .i64 1)), none⟩, ⟨some 20, .mov (.t 32), none⟩])
def impl_mapped_b17 : HCode := (.dreg (.q ⟨some 24, .faddr 3 (.t 5), none⟩ (.q ⟨some 25, .load false 1 (.t 24), none⟩ (.q ⟨some 26, .mov (.t 1), none⟩ (.q ⟨some 27, .load true 6 (.t 7), none⟩ (.l ⟨some 28, .call (.t 26) [(.t 27)], none⟩ [⟨some 25, .load false 1 (.t 24), none⟩, ⟨some 24, .faddr 3 (.t 5), none⟩] (.l ⟨some 29, .bslice 6 1 [(.int .i64 0), (.str ⟨⟨[]⟩⟩), (.int .i64 0), .nils, .nils, .nils] [(0, (.t 28))], none⟩ [⟨some 25, .load false 1 (.t 24), none⟩, ⟨some 24, .faddr 3 (.t 5), none⟩] (.l ⟨some 30, .append 6 104 (.t 25) (.t 29), none⟩ [] (.q ⟨some 31, .faddr 3 (.t 5), none⟩ (.l ⟨none, .store 1 (.t 31) (.t 30), none⟩ [] .done .none)) .none) .none) .none))))))
def impl_mapped_b15 : HCode := (.seq (.block 1 (.seq (.reg [⟨some 22, .iaddr 6 (.t 18) (.t 20), none⟩, ⟨some 23, .load true 6 (.t 22), none⟩, ⟨some 7, .alloc (.agg [(.int .i64 0), (.str ⟨⟨[]⟩⟩), (.int .i64 0), .nils, .nils, .nils]), none⟩, ⟨none, .store 6 (.t 7) (.t 23), none⟩]) impl_mapped_b17)) impl_mapped_b16)
def impl_mapped_b14 : HCode := (.seq (.cond (.t 21) .skip (.exit 0)) impl_mapped_b15)
def impl_mapped_l13 : HCode := (.seq (.reg [⟨some 21, .bin .lss (.t 20) (.t 19), none⟩]) impl_mapped_b14)
def impl_mapped_b12 : HCode := (.block 0 (.loop impl_mapped_l13))
def impl_mapped_b2 : HCode := (.seq (.seq (.reg [⟨some 17, .faddr 3 (.t 2), none⟩, ⟨some 18, .load false 1 (.t 17), none⟩, ⟨some 19, .len (.t 18), none⟩, ⟨some 20, .mov (.c (.int .i64 0)), none⟩]) impl_mapped_b12) impl_mapped_b3)
def impl_mapped_b1 : HCode := (.seq (.reg [⟨some 10, .faddr 0 (.t 2), none⟩, ⟨some 11, .load false 1 (.t 10), none⟩, ⟨some 12, .faddr 1 (.t 2), none⟩, ⟨some 13, .load false 1 (.t 12), none⟩, ⟨some 14, .faddr 2 (.t 2), none⟩, ⟨some 15, .load false 1 (.t 14), none⟩, ⟨some 16, .build [(.int .i64 0), (.str ⟨⟨[]⟩⟩), (.int .i64 0), .nils, .nils, .nils] [(0, 1, (.t 11)), (1, 1, (.t 13)), (2, 1, (.t 15))], none⟩, ⟨some 5, .alloc (.agg [(.int .i64 0), (.str ⟨⟨[]⟩⟩), (.int .i64 0), .nils, .nils, .nils]), none⟩, ⟨none, .store 6 (.t 5) (.t 16), none⟩]) impl_mapped_b2)
def impl_mapped_b0 : HCode := (.seq (.reg [⟨some 2, .box (.t 0), none⟩, ⟨some 4, .alloc (.agg [(.int .i64 0), (.str ⟨⟨[]⟩⟩), (.int .i64 0), .nils, .nils, .nils]), none⟩]) impl_mapped_b1)
def impl_mapped : HFunc := { np := 2, ntmps := 62, results := [(4, some (true, 6))], body := impl_mapped_b0 }
def impl_IsBare_b1 : HCode := (.seq (.reg [⟨some 3, .load true 6 (.t 1), none⟩, ⟨some 4, .call (.c (.fn F.impl_counted [] [])) [(.t 3), (.c (.fn F.impl_IsBare_1 [] []))], none⟩, ⟨some 5, .bin .eql (.t 4) (.c (.int .i64 0)), none⟩, ⟨some 2, .mov (.t 5), none⟩]) .ret)
def impl_IsBare_b0 : HCode := (.seq (.reg [⟨some 1, .box (.t 0), none⟩, ⟨some 2, .mov (.c (.bool false)), none⟩]) impl_IsBare_b1)
def impl_IsBare : HFunc := { np := 1, ntmps := 6, results := [(2, none)], body := impl_IsBare_b0 }
def spec_IsBare_b3 : HCode := (.seq (.reg [⟨some 34, .faddr 4 (.t 1), none⟩, ⟨some 35, .load false 1 (.t 34), none⟩, ⟨some 36, .call (.c (.fn F.spec_l11Is [] [])) [(.t 35)], none⟩, ⟨some 2, .mov (.t 36), none⟩]) .ret)
def spec_IsBare_b7 : HCode := (.reg [⟨some 24, .mov (.t 4), none⟩, ⟨some 25, .bin .add (.t 24) (.c (.int .i64 1)), none⟩, ⟨some 4, .mov (.t 25), none⟩])
def spec_IsBare_b9 : HCode := (.seq (.reg [⟨some 2, .mov (.c (.bool false)), none⟩]) .ret)
def spec_IsBare_b8 : HCode := (.cond (.t 33) spec_IsBare_b9 .skip)
def spec_IsBare_b6 : HCode := (.seq (.block 3 (.seq (.reg [⟨some 26, .faddr 5 (.t 1), none⟩, ⟨some 27, .load false 1 (.t 26), none⟩, ⟨some 28, .mov (.t 4), none⟩, ⟨some 29, .iaddr 8 (.t 27) (.t 28), none⟩, ⟨some 30, .faddr 2 (.t 29), none⟩, ⟨some 31, .load true 6 (.t 30), none⟩, ⟨some 32, .call (.c (.fn F.spec_IsBare [] [])) [(.t 31)], none⟩, ⟨some 33, .not (.t 32), none⟩]) spec_IsBare_b8)) spec_IsBare_b7)
def spec_IsBare_b10 : HCode := (.cond (.t 23) .skip (.exit 2))
def spec_IsBare_l5 : HCode := (.seq (.seq (.reg [⟨some 19, .mov (.t 4), none⟩, ⟨some 20, .faddr 5 (.t 1), none⟩, ⟨some 21, .load false 1 (.t 20), none⟩, ⟨some 22, .len (.t 21), none⟩, ⟨some 23, .bin .lss (.t 19) (.t 22), none⟩]) spec_IsBare_b10) spec_IsBare_b6)
def spec_IsBare_b4 : HCode := (.block 2 (.loop spec_IsBare_l5))
def spec_IsBare_b2 : HCode := (.seq (.seq (.reg [⟨some 4, .mov (.c (.int .i64 0)), none⟩]) spec_IsBare_b4) spec_IsBare_b3)
def spec_IsBare_b14 : HCode := (.reg [⟨some 10, .mov (.t 3), none⟩, ⟨some 11, .bin .add (.t 10) (.c (.int .i64 1)), none⟩, ⟨some 3, .mov (.t 11), none⟩])
def spec_IsBare_b16 : HCode := (.seq (.reg [⟨some 2, .mov (.c (.bool false)), none⟩]) .ret)
def spec_IsBare_b15 : HCode := (.cond (.t 18) spec_IsBare_b16 .skip)
def spec_IsBare_b13 : HCode := (.seq (.block 1 (.seq (.reg [⟨some 12, .faddr 3 (.t 1), none⟩, ⟨some 13, .load false 1 (.t 12), none⟩, ⟨some 14, .mov (.t 3), none⟩, ⟨some 15, .iaddr 6 (.t 13) (.t 14), none⟩, ⟨some 16, .load true 6 (.t 15), none⟩, ⟨some 17, .call (.c (.fn F.spec_IsBare [] [])) [(.t 16)], none⟩, ⟨some 18, .not (.t 17), none⟩]) spec_IsBare_b15)) spec_IsBare_b14)
def spec_IsBare_b17 : HCode := (.cond (.t 9) .skip (.exit 0))
def spec_IsBare_l12 : HCode := (.seq (.seq (.reg [⟨some 5, .mov (.t 3), none⟩, ⟨some 6, .faddr 3 (.t 1), none⟩, ⟨some 7, .load false 1 (.t 6), none⟩, ⟨some 8, .len (.t 7), none⟩, ⟨some 9, .bin .lss (.t 5) (.t 8), none⟩]) spec_IsBare_b17) spec_IsBare_b13)
def spec_IsBare_b11 : HCode := (.block 0 (.loop spec_IsBare_l12))
def spec_IsBare_b1 : HCode := (.seq (.seq (.reg [⟨some 3, .mov (.c (.int .i64 0)), none⟩]) spec_IsBare_b11) spec_IsBare_b2)
def spec_IsBare_b0 : HCode := (.seq (.reg [⟨some 1, .box (.t 0), none⟩, ⟨some 2, .mov (.c (.bool false)), none⟩]) spec_IsBare_b1)
def spec_IsBare : HFunc := { np := 1, ntmps := 37, results := [(2, none)], body := spec_IsBare_b0 }
def spec_l11Is_b2 : HCode := (.seq (.reg [⟨some 2, .mov (.c (.bool true)), none⟩]) .ret)
def spec_l11Is_b6 : HCode := (.reg [⟨some 8, .mov (.t 3), none⟩, ⟨some 9, .bin .add (.t 8) (.c (.int .i64 1)), none⟩, ⟨some 3, .mov (.t 9), none⟩])
def spec_l11Is_b8 : HCode := (.seq (.reg [⟨some 2, .mov (.c (.bool false)), none⟩]) .ret)
def spec_l11Is_b7 : HCode := (.cond (.t 34) spec_l11Is_b8 .skip)
def spec_l11Is_b5 : HCode := (.seq (.block 1 (.seq (.reg [⟨some 10, .mov (.t 0), none⟩, ⟨some 11, .mov (.t 3), none⟩, ⟨some 12, .iaddr 9 (.t 10) (.t 11), none⟩, ⟨some 13, .faddr 1 (.t 12), none⟩, ⟨some 14, .load false 1 (.t 13), none⟩, ⟨some 15, .len (.t 14), none⟩, ⟨some 16, .bin .gtr (.t 15) (.c (.int .i64 0)), none⟩, ⟨some 17, .mov (.t 16), none⟩, ⟨some 18, .mov (.t 0), some (17, false)⟩, ⟨some 19, .mov (.t 3), some (17, false)⟩, ⟨some 20, .iaddr 9 (.t 18) (.t 19), some (17, false)⟩, ⟨some 21, .faddr 8 (.t 20), some (17, false)⟩, ⟨some 22, .load false 1 (.t 21), some (17, false)⟩, ⟨some 23, .len (.t 22), some (17, false)⟩, ⟨some 24, .bin .gtr (.t 23) (.c (.int .i64 0)), some (17, false)⟩, ⟨some 25, .pick (.t 17) (.c (.bool true)) (.t 24), none⟩, ⟨some 26, .mov (.t 25), none⟩, ⟨some 27, .mov (.t 0), some (26, false)⟩, ⟨some 28, .mov (.t 3), some (26, false)⟩, ⟨some 29, .iaddr 9 (.t 27) (.t 28), some (26, false)⟩, ⟨some 30, .faddr 2 (.t 29), some (26, false)⟩, ⟨some 31, .load true 6 (.t 30), some (26, false)⟩, ⟨some 32, .call (.c (.fn F.spec_IsBare [] [])) [(.t 31)], some (26, false)⟩, ⟨some 33, .not (.t 32), some (26, false)⟩, ⟨some 34, .pick (.t 26) (.c (.bool true)) (.t 33), none⟩]) spec_l11Is_b7)) spec_l11Is_b6)
def spec_l11Is_b9 : HCode := (.cond (.t 7) .skip (.exit 0))
def spec_l11Is_l4 : HCode := (.seq (.seq (.reg [⟨some 4, .mov (.t 3), none⟩, ⟨some 5, .mov (.t 0), none⟩, ⟨some 6, .len (.t 5), none⟩, ⟨some 7, .bin .lss (.t 4) (.t 6), none⟩]) spec_l11Is_b9) spec_l11Is_b5)
def spec_l11Is_b3 : HCode := (.block 0 (.loop spec_l11Is_l4))
def spec_l11Is_b1 : HCode := (.seq (.seq (.reg [⟨some 3, .mov (.c (.int .i64 0)), none⟩]) spec_l11Is_b3) spec_l11Is_b2)
def spec_l11Is_b0 : HCode := (.seq (.reg [⟨some 2, .mov (.c (.bool false)), none⟩]) spec_l11Is_b1)
def spec_l11Is : HFunc := { np := 1, ntmps := 35, results := [(2, none)], body := spec_l11Is_b0 }
def laws_toStringS_b3 : HCode := (.seq (.reg [⟨some 21, .mov (.t 3), none⟩, ⟨some 2, .mov (.t 21), none⟩]) .ret)
def laws_toStringS_b7 : HCode := (.reg [⟨some 12, .mov (.t 4), none⟩, ⟨some 13, .bin .add (.t 12) (.c (.int .i64 1)), none⟩, ⟨some 4, .mov (.t 13), none⟩])
def laws_toStringS_b6 : HCode := (.seq (.block 1 (.reg [⟨some 14, .mov (.t 3), none⟩, ⟨some 15, .mov (.t 4), none⟩, ⟨some 16, .mov (.t 0), none⟩, ⟨some 17, .mov (.t 4), none⟩, ⟨some 18, .iaddr 1 (.t 16) (.t 17), none⟩, ⟨some 19, .load false 1 (.t 18), none⟩, ⟨some 20, .iaddr 1 (.t 14) (.t 15), none⟩, ⟨none, .store 1 (.t 20) (.t 19), none⟩])) laws_toStringS_b7)
def laws_toStringS_b8 : HCode := (.cond (.t 11) .skip (.exit 0))
def laws_toStringS_l5 : HCode := (.seq (.seq (.reg [⟨some 8, .mov (.t 4), none⟩, ⟨some 9, .mov (.t 0), none⟩, ⟨some 10, .len (.t 9), none⟩, ⟨some 11, .bin .lss (.t 8) (.t 10), none⟩]) laws_toStringS_b8) laws_toStringS_b6)
def laws_toStringS_b4 : HCode := (.block 0 (.loop laws_toStringS_l5))
def laws_toStringS_b2 : HCode := (.seq (.seq (.reg [⟨some 4, .mov (.c (.int .i64 0)), none⟩]) laws_toStringS_b4) laws_toStringS_b3)
def laws_toStringS_b1 : HCode := (.seq (.reg [⟨some 5, .mov (.t 0), none⟩, ⟨some 6, .len (.t 5), none⟩, ⟨some 7, .mkslice 1 16 (.str ⟨⟨[]⟩⟩) (.t 6) (.t 6), none⟩, ⟨some 3, .mov (.t 7), none⟩]) laws_toStringS_b2)
def laws_toStringS_b0 : HCode := (.seq (.reg [⟨some 2, .mov (.c .nils), none⟩]) laws_toStringS_b1)
def laws_toStringS : HFunc := { np := 1, ntmps := 22, results := [(2, none)], body := laws_toStringS_b0 }
def laws_toAlt_b5 : HCode := (.seq (.reg [⟨some 15, .load true 8 (.t 3), none⟩, ⟨none, .store 8 (.t 2) (.t 15), none⟩]) .ret)
def laws_toAlt_b4 : HCode := (.seq (.reg [⟨some 11, .faddr 2 (.t 1), none⟩, ⟨some 12, .load true 6 (.t 11), none⟩, ⟨some 13, .call (.c (.fn F.laws_toExp [] [])) [(.t 12)], none⟩, ⟨some 14, .faddr 2 (.t 3), none⟩, ⟨none, .store 6 (.t 14) (.t 13), none⟩]) laws_toAlt_b5)
def laws_toAlt_b3 : HCode := (.seq (.reg [⟨some 7, .faddr 1 (.t 1), none⟩, ⟨some 8, .load false 1 (.t 7), none⟩, ⟨some 9, .call (.c (.fn F.laws_toStringS [] [])) [(.t 8)], none⟩, ⟨some 10, .faddr 1 (.t 3), none⟩, ⟨none, .store 1 (.t 10) (.t 9), none⟩]) laws_toAlt_b4)
def laws_toAlt_b2 : HCode := (.seq (.reg [⟨some 4, .faddr 0 (.t 1), none⟩, ⟨some 5, .load false 1 (.t 4), none⟩, ⟨some 6, .faddr 0 (.t 3), none⟩, ⟨none, .store 1 (.t 6) (.t 5), none⟩]) laws_toAlt_b3)
def laws_toAlt_b1 : HCode := (.seq (.reg [⟨some 3, .alloc (.agg [(.str ⟨⟨[]⟩⟩), .nils, (.int .i64 0), (.str ⟨⟨[]⟩⟩), (.int .i64 0), .nils, .nils, .nils]), none⟩]) laws_toAlt_b2)
def laws_toAlt_b0 : HCode := (.seq (.reg [⟨some 1, .box (.t 0), none⟩, ⟨some 2, .alloc (.agg [(.str ⟨⟨[]⟩⟩), .nils, (.int .i64 0), (.str ⟨⟨[]⟩⟩), (.int .i64 0), .nils, .nils, .nils]), none⟩]) laws_toAlt_b1)
def laws_toAlt : HFunc := { np := 1, ntmps := 16, results := [(2, some (true, 8))], body := laws_toAlt_b0 }
def laws_toAltS_b3 : HCode := (.seq (.reg [⟨some 22, .mov (.t 3), none⟩, ⟨some 2, .mov (.t 22), none⟩]) .ret)
def laws_toAltS_b7 : HCode := (.reg [⟨some 12, .mov (.t 4), none⟩, ⟨some 13, .bin .add (.t 12) (.c (.int .i64 1)), none⟩, ⟨some 4, .mov (.t 13), none⟩])
def laws_toAltS_b6 : HCode := (.seq (.block 1 (.reg [⟨some 14, .mov (.t 3), none⟩, ⟨some 15, .mov (.t 4), none⟩, ⟨some 16, .mov (.t 0), none⟩, ⟨some 17, .mov (.t 4), none⟩, ⟨some 18, .iaddr 8 (.t 16) (.t 17), none⟩, ⟨some 19, .load true 8 (.t 18), none⟩, ⟨some 20, .call (.c (.fn F.laws_toAlt [] [])) [(.t 19)], none⟩, ⟨some 21, .iaddr 8 (.t 14) (.t 15), none⟩, ⟨none, .store 8 (.t 21) (.t 20), none⟩])) laws_toAltS_b7)
def laws_toAltS_b8 : HCode := (.cond (.t 11) .skip (.exit 0))
def laws_toAltS_l5 : HCode := (.seq (.seq (.reg [⟨some 8, .mov (.t 4), none⟩, ⟨some 9, .mov (.t 0), none⟩, ⟨some 10, .len (.t 9), none⟩, ⟨some 11, .bin .lss (.t 8) (.t 10), none⟩]) laws_toAltS_b8) laws_toAltS_b6)
def laws_toAltS_b4 : HCode := (.block 0 (.loop laws_toAltS_l5))
def laws_toAltS_b2 : HCode := (.seq (.seq (.reg [⟨some 4, .mov (.c (.int .i64 0)), none⟩]) laws_toAltS_b4) laws_toAltS_b3)
def laws_toAltS_b1 : HCode := (.seq (.reg [⟨some 5, .mov (.t 0), none⟩, ⟨some 6, .len (.t 5), none⟩, ⟨some 7, .mkslice 8 144 (.agg [(.str ⟨⟨[]⟩⟩), .nils, (.int .i64 0), (.str ⟨⟨[]⟩⟩), (.int .i64 0), .nils, .nils, .nils]) (.t 6) (.t 6), none⟩, ⟨some 3, .mov (.t 7), none⟩]) laws_toAltS_b2)
def laws_toAltS_b0 : HCode := (.seq (.reg [⟨some 2, .mov (.c .nils), none⟩]) laws_toAltS_b1)
def laws_toAltS : HFunc := { np := 1, ntmps := 23, results := [(2, none)], body := laws_toAltS_b0 }
def laws_toDec_b6 : HCode := (.seq (.reg [⟨some 19, .load true 9 (.t 3), none⟩, ⟨none, .store 9 (.t 2) (.t 19), none⟩]) .ret)
def laws_toDec_b5 : HCode := (.seq (.reg [⟨some 15, .faddr 8 (.t 1), none⟩, ⟨some 16, .load false 1 (.t 15), none⟩, ⟨some 17, .call (.c (.fn F.laws_toDecS [] [])) [(.t 16)], none⟩, ⟨some 18, .faddr 8 (.t 3), none⟩, ⟨none, .store 1 (.t 18) (.t 17), none⟩]) laws_toDec_b6)
def laws_toDec_b4 : HCode := (.seq (.reg [⟨some 11, .faddr 2 (.t 1), none⟩, ⟨some 12, .load true 6 (.t 11), none⟩, ⟨some 13, .call (.c (.fn F.laws_toExp [] [])) [(.t 12)], none⟩, ⟨some 14, .faddr 2 (.t 3), none⟩, ⟨none, .store 6 (.t 14) (.t 13), none⟩]) laws_toDec_b5)
def laws_toDec_b3 : HCode := (.seq (.reg [⟨some 7, .faddr 1 (.t 1), none⟩, ⟨some 8, .load false 1 (.t 7), none⟩, ⟨some 9, .call (.c (.fn F.laws_toStringS [] [])) [(.t 8)], none⟩, ⟨some 10, .faddr 1 (.t 3), none⟩, ⟨none, .store 1 (.t 10) (.t 9), none⟩]) laws_toDec_b4)
def laws_toDec_b2 : HCode := (.seq (.reg [⟨some 4, .faddr 0 (.t 1), none⟩, ⟨some 5, .load false 1 (.t 4), none⟩, ⟨some 6, .faddr 0 (.t 3), none⟩, ⟨none, .store 1 (.t 6) (.t 5), none⟩]) laws_toDec_b3)
def laws_toDec_b1 : HCode := (.seq (.reg [⟨some 3, .alloc (.agg [(.str ⟨⟨[]⟩⟩), .nils, (.int .i64 0), (.str ⟨⟨[]⟩⟩), (.int .i64 0), .nils, .nils, .nils, .nils]), none⟩]) laws_toDec_b2)
def laws_toDec_b0 : HCode := (.seq (.reg [⟨some 1, .box (.t 0), none⟩, ⟨some 2, .alloc (.agg [(.str ⟨⟨[]⟩⟩), .nils, (.int .i64 0), (.str ⟨⟨[]⟩⟩), (.int .i64 0), .nils, .nils, .nils, .nils]), none⟩]) laws_toDec_b1)
def laws_toDec : HFunc := { np := 1, ntmps := 20, results := [(2, some (true, 9))], body := laws_toDec_b0 }
def laws_toDecS_b3 : HCode := (.seq (.reg [⟨some 22, .mov (.t 3), none⟩, ⟨some 2, .mov (.t 22), none⟩]) .ret)
def laws_toDecS_b7 : HCode := (.reg [⟨some 12, .mov (.t 4), none⟩, ⟨some 13, .bin .add (.t 12) (.c (.int .i64 1)), none⟩, ⟨some 4, .mov (.t 13), none⟩])
def laws_toDecS_b6 : HCode := (.seq (.block 1 (.reg [⟨some 14, .mov (.t 3), none⟩, ⟨some 15, .mov (.t 4), none⟩, ⟨some 16, .mov (.t 0), none⟩, ⟨some 17, .mov (.t 4), none⟩, ⟨some 18, .iaddr 9 (.t 16) (.t 17), none⟩, ⟨some 19, .load true 9 (.t 18), none⟩, ⟨some 20, .call (.c (.fn F.laws_toDec [] [])) [(.t 19)], none⟩, ⟨some 21, .iaddr 9 (.t 14) (.t 15), none⟩, ⟨none, .store 9 (.t 21) (.t 20), none⟩])) laws_toDecS_b7)
def laws_toDecS_b8 : HCode := (.cond (.t 11) .skip (.exit 0))
def laws_toDecS_l5 : HCode := (.seq (.seq (.reg [⟨some 8, .mov (.t 4), none⟩, ⟨some 9, .mov (.t 0), none⟩, ⟨some 10, .len (.t 9), none⟩, ⟨some 11, .bin .lss (.t 8) (.t 10), none⟩]) laws_toDecS_b8) laws_toDecS_b6)
def laws_toDecS_b4 : HCode := (.block 0 (.loop laws_toDecS_l5))
def laws_toDecS_b2 : HCode := (.seq (.seq (.reg [⟨some 4, .mov (.c (.int .i64 0)), none⟩]) laws_toDecS_b4) laws_toDecS_b3)
def laws_toDecS_b1 : HCode := (.seq (.reg [⟨some 5, .mov (.t 0), none⟩, ⟨some 6, .len (.t 5), none⟩, ⟨some 7, .mkslice 9 168 (.agg [(.str ⟨⟨[]⟩⟩), .nils, (.int .i64 0), (.str ⟨⟨[]⟩⟩), (.int .i64 0), .nils, .nils, .nils, .nils]) (.t 6) (.t 6), none⟩, ⟨some 3, .mov (.t 7), none⟩]) laws_toDecS_b2)
def laws_toDecS_b0 : HCode := (.seq (.reg [⟨some 2, .mov (.c .nils), none⟩]) laws_toDecS_b1)
def laws_toDecS : HFunc := { np := 1, ntmps := 23, results := [(2, none)], body := laws_toDecS_b0 }
def laws_toExp_b8 : HCode := (.seq (.reg [⟨some 25, .load true 6 (.t 3), none⟩, ⟨none, .store 6 (.t 2) (.t 25), none⟩]) .ret)
def laws_toExp_b7 : HCode := (.seq (.reg [⟨some 21, .faddr 5 (.t 1), none⟩, ⟨some 22, .load false 1 (.t 21), none⟩, ⟨some 23, .call (.c (.fn F.laws_toAltS [] [])) [(.t 22)], none⟩, ⟨some 24, .faddr 5 (.t 3), none⟩, ⟨none, .store 1 (.t 24) (.t 23), none⟩]) laws_toExp_b8)
def laws_toExp_b6 : HCode := (.seq (.reg [⟨some 17, .faddr 4 (.t 1), none⟩, ⟨some 18, .load false 1 (.t 17), none⟩, ⟨some 19, .call (.c (.fn F.laws_toDecS [] [])) [(.t 18)], none⟩, ⟨some 20, .faddr 4 (.t 3), none⟩, ⟨none, .store 1 (.t 20) (.t 19), none⟩]) laws_toExp_b7)
def laws_toExp_b5 : HCode := (.seq (.reg [⟨some 13, .faddr 3 (.t 1), none⟩, ⟨some 14, .load false 1 (.t 13), none⟩, ⟨some 15, .call (.c (.fn F.laws_toExpS [] [])) [(.t 14)], none⟩, ⟨some 16, .faddr 3 (.t 3), none⟩, ⟨none, .store 1 (.t 16) (.t 15), none⟩]) laws_toExp_b6)
def laws_toExp_b4 : HCode := (.seq (.reg [⟨some 10, .faddr 2 (.t 1), none⟩, ⟨some 11, .load false 1 (.t 10), none⟩, ⟨some 12, .faddr 2 (.t 3), none⟩, ⟨none, .store 1 (.t 12) (.t 11), none⟩]) laws_toExp_b5)
def laws_toExp_b3 : HCode := (.seq (.reg [⟨some 7, .faddr 1 (.t 1), none⟩, ⟨some 8, .load false 1 (.t 7), none⟩, ⟨some 9, .faddr 1 (.t 3), none⟩, ⟨none, .store 1 (.t 9) (.t 8), none⟩]) laws_toExp_b4)
def laws_toExp_b2 : HCode := (.seq (.reg [⟨some 4, .faddr 0 (.t 1), none⟩, ⟨some 5, .load false 1 (.t 4), none⟩, ⟨some 6, .faddr 0 (.t 3), none⟩, ⟨none, .store 1 (.t 6) (.t 5), none⟩]) laws_toExp_b3)
def laws_toExp_b1 : HCode := (.seq (.reg [⟨some 3, .alloc (.agg [(.int .i64 0), (.str ⟨⟨[]⟩⟩), (.int .i64 0), .nils, .nils, .nils]), none⟩]) laws_toExp_b2)
def laws_toExp_b0 : HCode := (.seq (.reg [⟨some 1, .box (.t 0), none⟩, ⟨some 2, .alloc (.agg [(.int .i64 0), (.str ⟨⟨[]⟩⟩), (.int .i64 0), .nils, .nils, .nils]), none⟩]) laws_toExp_b1)
def laws_toExp : HFunc := { np := 1, ntmps := 26, results := [(2, some (true, 6))], body := laws_toExp_b0 }
def laws_toExpS_b3 : HCode := (.seq (.reg [⟨some 22, .mov (.t 3), none⟩, ⟨some 2, .mov (.t 22), none⟩]) .ret)
def laws_toExpS_b7 : HCode := (.reg [⟨some 12, .mov (.t 4), none⟩, ⟨some 13, .bin .add (.t 12) (.c (.int .i64 1)), none⟩, ⟨some 4, .mov (.t 13), none⟩])
def laws_toExpS_b6 : HCode := (.seq (.block 1 (.reg [⟨some 14, .mov (.t 3), none⟩, ⟨some 15, .mov (.t 4), none⟩, ⟨some 16, .mov (.t 0), none⟩, ⟨some 17, .mov (.t 4), none⟩, ⟨some 18, .iaddr 6 (.t 16) (.t 17), none⟩, ⟨some 19, .load true 6 (.t 18), none⟩, ⟨some 20, .call (.c (.fn F.laws_toExp [] [])) [(.t 19)], none⟩, ⟨some 21, .iaddr 6 (.t 14) (.t 15), none⟩, ⟨none, .store 6 (.t 21) (.t 20), none⟩])) laws_toExpS_b7)
def laws_toExpS_b8 : HCode := (.cond (.t 11) .skip (.exit 0))
def laws_toExpS_l5 : HCode := (.seq (.seq (.reg [⟨some 8, .mov (.t 4), none⟩, ⟨some 9, .mov (.t 0), none⟩, ⟨some 10, .len (.t 9), none⟩, ⟨some 11, .bin .lss (.t 8) (.t 10), none⟩]) laws_toExpS_b8) laws_toExpS_b6)
def laws_toExpS_b4 : HCode := (.block 0 (.loop laws_toExpS_l5))
def laws_toExpS_b2 : HCode := (.seq (.seq (.reg [⟨some 4, .mov (.c (.int .i64 0)), none⟩]) laws_toExpS_b4) laws_toExpS_b3)
def laws_toExpS_b1 : HCode := (.seq (.reg [⟨some 5, .mov (.t 0), none⟩, ⟨some 6, .len (.t 5), none⟩, ⟨some 7, .mkslice 6 104 (.agg [(.int .i64 0), (.str ⟨⟨[]⟩⟩), (.int .i64 0), .nils, .nils, .nils]) (.t 6) (.t 6), none⟩, ⟨some 3, .mov (.t 7), none⟩]) laws_toExpS_b2)
def laws_toExpS_b0 : HCode := (.seq (.reg [⟨some 2, .mov (.c .nils), none⟩]) laws_toExpS_b1)
def laws_toExpS : HFunc := { np := 1, ntmps := 23, results := [(2, none)], body := laws_toExpS_b0 }
def laws_szStringS_b4 : HCode := (.seq (.reg [⟨some 27, .mov (.t 1), none⟩, ⟨some 4, .mov (.t 27), none⟩]) .ret)
def laws_szStringS_b8 : HCode := (.reg [⟨some 16, .mov (.t 5), none⟩, ⟨some 17, .bin .add (.t 16) (.c (.int .i64 1)), none⟩, ⟨some 5, .mov (.t 17), none⟩])
def laws_szStringS_b11 : HCode := (.seq (.reg [⟨some 4, .mov (.c (.int .i64 (-1))), none⟩]) .ret)
def laws_szStringS_b10 : HCode := (.cond (.t 26) laws_szStringS_b11 .skip)
def laws_szStringS_b9 : HCode := (.seq (.reg [⟨some 25, .mov (.t 1), none⟩, ⟨some 26, .bin .lss (.t 25) (.c (.int .i64 0)), none⟩]) laws_szStringS_b10)
def laws_szStringS_b7 : HCode := (.seq (.block 1 (.seq (.reg [⟨some 18, .mov (.t 1), none⟩, ⟨some 19, .mov (.t 0), none⟩, ⟨some 20, .mov (.t 5), none⟩, ⟨some 21, .iaddr 1 (.t 19) (.t 20), none⟩, ⟨some 22, .load false 1 (.t 21), none⟩, ⟨some 23, .slen (.t 22), none⟩, ⟨some 24, .bin .sub (.t 18) (.t 23), none⟩, ⟨some 1, .mov (.t 24), none⟩]) laws_szStringS_b9)) laws_szStringS_b8)
def laws_szStringS_b12 : HCode := (.cond (.t 15) .skip (.exit 0))
def laws_szStringS_l6 : HCode := (.seq (.seq (.reg [⟨some 12, .mov (.t 5), none⟩, ⟨some 13, .mov (.t 0), none⟩, ⟨some 14, .len (.t 13), none⟩, ⟨some 15, .bin .lss (.t 12) (.t 14), none⟩]) laws_szStringS_b12) laws_szStringS_b7)
def laws_szStringS_b5 : HCode := (.block 0 (.loop laws_szStringS_l6))
def laws_szStringS_b3 : HCode := (.seq (.seq (.reg [⟨some 5, .mov (.c (.int .i64 0)), none⟩]) laws_szStringS_b5) laws_szStringS_b4)
def laws_szStringS_b14 : HCode := (.seq (.reg [⟨some 4, .mov (.c (.int .i64 (-1))), none⟩]) .ret)
def laws_szStringS_b13 : HCode := (.cond (.t 11) laws_szStringS_b14 .skip)
def laws_szStringS_b2 : HCode := (.seq (.seq (.reg [⟨some 10, .mov (.t 1), none⟩, ⟨some 11, .bin .lss (.t 10) (.c (.int .i64 0)), none⟩]) laws_szStringS_b13) laws_szStringS_b3)
def laws_szStringS_b1 : HCode := (.seq (.reg [⟨some 6, .mov (.t 1), none⟩, ⟨some 7, .mov (.t 0), none⟩, ⟨some 8, .len (.t 7), none⟩, ⟨some 9, .bin .sub (.t 6) (.t 8), none⟩, ⟨some 1, .mov (.t 9), none⟩]) laws_szStringS_b2)
def laws_szStringS_b0 : HCode := (.seq (.reg [⟨some 4, .mov (.c (.int .i64 0)), none⟩]) laws_szStringS_b1)
def laws_szStringS : HFunc := { np := 2, ntmps := 28, results := [(4, none)], body := laws_szStringS_b0 }
def laws_szAlt_b7 : HCode := (.seq (.reg [⟨some 24, .mov (.t 1), none⟩, ⟨some 4, .mov (.t 24), none⟩]) .ret)
def laws_szAlt_b9 : HCode := (.seq (.reg [⟨some 4, .mov (.c (.int .i64 (-1))), none⟩]) .ret)
def laws_szAlt_b8 : HCode := (.cond (.t 23) laws_szAlt_b9 .skip)
def laws_szAlt_b6 : HCode := (.seq (.seq (.reg [⟨some 22, .mov (.t 1), none⟩, ⟨some 23, .bin .lss (.t 22) (.c (.int .i64 0)), none⟩]) laws_szAlt_b8) laws_szAlt_b7)
def laws_szAlt_b5 : HCode := (.seq (.reg [⟨some 18, .faddr 2 (.t 2), none⟩, ⟨some 19, .load true 6 (.t 18), none⟩, ⟨some 20, .mov (.t 1), none⟩, ⟨some 21, .call (.c (.fn F.laws_szExp [] [])) [(.t 19), (.t 20)], none⟩, ⟨some 1, .mov (.t 21), none⟩]) laws_szAlt_b6)
def laws_szAlt_b11 : HCode := (.seq (.reg [⟨some 4, .mov (.c (.int .i64 (-1))), none⟩]) .ret)
def laws_szAlt_b10 : HCode := (.cond (.t 17) laws_szAlt_b11 .skip)
def laws_szAlt_b4 : HCode := (.seq (.seq (.reg [⟨some 16, .mov (.t 1), none⟩, ⟨some 17, .bin .lss (.t 16) (.c (.int .i64 0)), none⟩]) laws_szAlt_b10) laws_szAlt_b5)
def laws_szAlt_b3 : HCode := (.seq (.reg [⟨some 12, .faddr 1 (.t 2), none⟩, ⟨some 13, .load false 1 (.t 12), none⟩, ⟨some 14, .mov (.t 1), none⟩, ⟨some 15, .call (.c (.fn F.laws_szStringS [] [])) [(.t 13), (.t 14)], none⟩, ⟨some 1, .mov (.t 15), none⟩]) laws_szAlt_b4)
def laws_szAlt_b13 : HCode := (.seq (.reg [⟨some 4, .mov (.c (.int .i64 (-1))), none⟩]) .ret)
def laws_szAlt_b12 : HCode := (.cond (.t 11) laws_szAlt_b13 .skip)
def laws_szAlt_b2 : HCode := (.seq (.seq (.reg [⟨some 10, .mov (.t 1), none⟩, ⟨some 11, .bin .lss (.t 10) (.c (.int .i64 0)), none⟩]) laws_szAlt_b12) laws_szAlt_b3)
def laws_szAlt_b1 : HCode := (.seq (.reg [⟨some 5, .mov (.t 1), none⟩, ⟨some 6, .faddr 0 (.t 2), none⟩, ⟨some 7, .load false 1 (.t 6), none⟩, ⟨some 8, .slen (.t 7), none⟩, ⟨some 9, .bin .sub (.t 5) (.t 8), none⟩, ⟨some 1, .mov (.t 9), none⟩]) laws_szAlt_b2)
def laws_szAlt_b0 : HCode := (.seq (.reg [⟨some 2, .box (.t 0), none⟩, ⟨some 4, .mov (.c (.int .i64 0)), none⟩]) laws_szAlt_b1)
def laws_szAlt : HFunc := { np := 2, ntmps := 25, results := [(4, none)], body := laws_szAlt_b0 }
def laws_szAltS_b4 : HCode := (.seq (.reg [⟨some 26, .mov (.t 1), none⟩, ⟨some 4, .mov (.t 26), none⟩]) .ret)
def laws_szAltS_b8 : HCode := (.reg [⟨some 16, .mov (.t 5), none⟩, ⟨some 17, .bin .add (.t 16) (.c (.int .i64 1)), none⟩, ⟨some 5, .mov (.t 17), none⟩])
def laws_szAltS_b11 : HCode := (.seq (.reg [⟨some 4, .mov (.c (.int .i64 (-1))), none⟩]) .ret)
def laws_szAltS_b10 : HCode := (.cond (.t 25) laws_szAltS_b11 .skip)
def laws_szAltS_b9 : HCode := (.seq (.reg [⟨some 24, .mov (.t 1), none⟩, ⟨some 25, .bin .lss (.t 24) (.c (.int .i64 0)), none⟩]) laws_szAltS_b10)
def laws_szAltS_b7 : HCode := (.seq (.block 1 (.seq (.reg [⟨some 18, .mov (.t 0), none⟩, ⟨some 19, .mov (.t 5), none⟩, ⟨some 20, .iaddr 8 (.t 18) (.t 19), none⟩, ⟨some 21, .load true 8 (.t 20), none⟩, ⟨some 22, .mov (.t 1), none⟩, ⟨some 23, .call (.c (.fn F.laws_szAlt [] [])) [(.t 21), (.t 22)], none⟩, ⟨some 1, .mov (.t 23), none⟩]) laws_szAltS_b9)) laws_szAltS_b8)
def laws_szAltS_b12 : HCode := (.cond (.t 15) .skip (.exit 0))
def laws_szAltS_l6 : HCode := (.seq (.seq (.reg [⟨some 12, .mov (.t 5), none⟩, ⟨some 13, .mov (.t 0), none⟩, ⟨some 14, .len (.t 13), none⟩, ⟨some 15, .bin .lss (.t 12) (.t 14), none⟩]) laws_szAltS_b12) laws_szAltS_b7)
def laws_szAltS_b5 : HCode := (.block 0 (.loop laws_szAltS_l6))
def laws_szAltS_b3 : HCode := (.seq (.seq (.reg [⟨some 5, .mov (.c (.int .i64 0)), none⟩]) laws_szAltS_b5) laws_szAltS_b4)
def laws_szAltS_b14 : HCode := (.seq (.reg [⟨some 4, .mov (.c (.int .i64 (-1))), none⟩]) .ret)
def laws_szAltS_b13 : HCode := (.cond (.t 11) laws_szAltS_b14 .skip)
def laws_szAltS_b2 : HCode := (.seq (.seq (.reg [⟨some 10, .mov (.t 1), none⟩, ⟨some 11, .bin .lss (.t 10) (.c (.int .i64 0)), none⟩]) laws_szAltS_b13) laws_szAltS_b3)
def laws_szAltS_b1 : HCode := (.seq (.reg [⟨some 6, .mov (.t 1), none⟩, ⟨some 7, .mov (.t 0), none⟩, ⟨some 8, .len (.t 7), none⟩, ⟨some 9, .bin .sub (.t 6) (.t 8), none⟩, ⟨some 1, .mov (.t 9), none⟩]) laws_szAltS_b2)
def laws_szAltS_b0 : HCode := (.seq (.reg [⟨some 4, .mov (.c (.int .i64 0)), none⟩]) laws_szAltS_b1)
def laws_szAltS : HFunc := { np := 2, ntmps := 27, results := [(4, none)], body := laws_szAltS_b0 }
def laws_szDec_b9 : HCode := (.seq (.reg [⟨some 30, .mov (.t 1), none⟩, ⟨some 4, .mov (.t 30), none⟩]) .ret)
def laws_szDec_b11 : HCode := (.seq (.reg [⟨some 4, .mov (.c (.int .i64 (-1))), none⟩]) .ret)
def laws_szDec_b10 : HCode := (.cond (.t 29) laws_szDec_b11 .skip)
def laws_szDec_b8 : HCode := (.seq (.seq (.reg [⟨some 28, .mov (.t 1), none⟩, ⟨some 29, .bin .lss (.t 28) (.c (.int .i64 0)), none⟩]) laws_szDec_b10) laws_szDec_b9)
def laws_szDec_b7 : HCode := (.seq (.reg [⟨some 24, .faddr 8 (.t 2), none⟩, ⟨some 25, .load false 1 (.t 24), none⟩, ⟨some 26, .mov (.t 1), none⟩, ⟨some 27, .call (.c (.fn F.laws_szDecS [] [])) [(.t 25), (.t 26)], none⟩, ⟨some 1, .mov (.t 27), none⟩]) laws_szDec_b8)
def laws_szDec_b13 : HCode := (.seq (.reg [⟨some 4, .mov (.c (.int .i64 (-1))), none⟩]) .ret)
def laws_szDec_b12 : HCode := (.cond (.t 23) laws_szDec_b13 .skip)
def laws_szDec_b6 : HCode := (.seq (.seq (.reg [⟨some 22, .mov (.t 1), none⟩, ⟨some 23, .bin .lss (.t 22) (.c (.int .i64 0)), none⟩]) laws_szDec_b12) laws_szDec_b7)
def laws_szDec_b5 : HCode := (.seq (.reg [⟨some 18, .faddr 2 (.t 2), none⟩, ⟨some 19, .load true 6 (.t 18), none⟩, ⟨some 20, .mov (.t 1), none⟩, ⟨some 21, .call (.c (.fn F.laws_szExp [] [])) [(.t 19), (.t 20)], none⟩, ⟨some 1, .mov (.t 21), none⟩]) laws_szDec_b6)
def laws_szDec_b15 : HCode := (.seq (.reg [⟨some 4, .mov (.c (.int .i64 (-1))), none⟩]) .ret)
def laws_szDec_b14 : HCode := (.cond (.t 17) laws_szDec_b15 .skip)
def laws_szDec_b4 : HCode := (.seq (.seq (.reg [⟨some 16, .mov (.t 1), none⟩, ⟨some 17, .bin .lss (.t 16) (.c (.int .i64 0)), none⟩]) laws_szDec_b14) laws_szDec_b5)
def laws_szDec_b3 : HCode := (.seq (.reg [⟨some 12, .faddr 1 (.t 2), none⟩, ⟨some 13, .load false 1 (.t 12), none⟩, ⟨some 14, .mov (.t 1), none⟩, ⟨some 15, .call (.c (.fn F.laws_szStringS [] [])) [(.t 13), (.t 14)], none⟩, ⟨some 1, .mov (.t 15), none⟩]) laws_szDec_b4)
def laws_szDec_b17 : HCode := (.seq (.reg [⟨some 4, .mov (.c (.int .i64 (-1))), none⟩]) .ret)
def laws_szDec_b16 : HCode := (.cond (.t 11) laws_szDec_b17 .skip)
def laws_szDec_b2 : HCode := (.seq (.seq (.reg [⟨some 10, .mov (.t 1), none⟩, ⟨some 11, .bin .lss (.t 10) (.c (.int .i64 0)), none⟩]) laws_szDec_b16) laws_szDec_b3)
def laws_szDec_b1 : HCode := (.seq (.reg [⟨some 5, .mov (.t 1), none⟩, ⟨some 6, .faddr 0 (.t 2), none⟩, ⟨some 7, .load false 1 (.t 6), none⟩, ⟨some 8, .slen (.t 7), none⟩, ⟨some 9, .bin .sub (.t 5) (.t 8), none⟩, ⟨some 1, .mov (.t 9), none⟩]) laws_szDec_b2)
def laws_szDec_b0 : HCode := (.seq (.reg [⟨some 2, .box (.t 0), none⟩, ⟨some 4, .mov (.c (.int .i64 0)), none⟩]) laws_szDec_b1)
def laws_szDec : HFunc := { np := 2, ntmps := 31, results := [(4, none)], body := laws_szDec_b0 }
def laws_szDecS_b4 : HCode := (.seq (.reg [⟨some 26, .mov (.t 1), none⟩, ⟨some 4, .mov (.t 26), none⟩]) .ret)
def laws_szDecS_b8 : HCode := (.reg [⟨some 16, .mov (.t 5), none⟩, ⟨some 17, .bin .add (.t 16) (.c (.int .i64 1)), none⟩, ⟨some 5, .mov (.t 17), none⟩])
def laws_szDecS_b11 : HCode := (.seq (.reg [⟨some 4, .mov (.c (.int .i64 (-1))), none⟩]) .ret)
def laws_szDecS_b10 : HCode := (.cond (.t 25) laws_szDecS_b11 .skip)
def laws_szDecS_b9 : HCode := (.seq (.reg [⟨some 24, .mov (.t 1), none⟩, ⟨some 25, .bin .lss (.t 24) (.c (.int .i64 0)), none⟩]) laws_szDecS_b10)
def laws_szDecS_b7 : HCode := (.seq (.block 1 (.seq (.reg [⟨some 18, .mov (.t 0), none⟩, ⟨some 19, .mov (.t 5), none⟩, ⟨some 20, .iaddr 9 (.t 18) (.t 19), none⟩, ⟨some 21, .load true 9 (.t 20), none⟩, ⟨some 22, .mov (.t 1), none⟩, ⟨some 23, .call (.c (.fn F.laws_szDec [] [])) [(.t 21), (.t 22)], none⟩, ⟨some 1, .mov (.t 23), none⟩]) laws_szDecS_b9)) laws_szDecS_b8)
def laws_szDecS_b12 : HCode := (.cond (.t 15) .skip (.exit 0))
def laws_szDecS_l6 : HCode := (.seq (.seq (.reg [⟨some 12, .mov (.t 5), none⟩, ⟨some 13, .mov (.t 0), none⟩, ⟨some 14, .len (.t 13), none⟩, ⟨some 15, .bin .lss (.t 12) (.t 14), none⟩]) laws_szDecS_b12) laws_szDecS_b7)
def laws_szDecS_b5 : HCode := (.block 0 (.loop laws_szDecS_l6))
def laws_szDecS_b3 : HCode := (.seq (.seq (.reg [⟨some 5, .mov (.c (.int .i64 0)), none⟩]) laws_szDecS_b5) laws_szDecS_b4)
def laws_szDecS_b14 : HCode := (.seq (.reg [⟨some 4, .mov (.c (.int .i64 (-1))), none⟩]) .ret)
def laws_szDecS_b13 : HCode := (.cond (.t 11) laws_szDecS_b14 .skip)
def laws_szDecS_b2 : HCode := (.seq (.seq (.reg [⟨some 10, .mov (.t 1), none⟩, ⟨some 11, .bin .lss (.t 10) (.c (.int .i64 0)), none⟩]) laws_szDecS_b13) laws_szDecS_b3)
def laws_szDecS_b1 : HCode := (.seq (.reg [⟨some 6, .mov (.t 1), none⟩, ⟨some 7, .mov (.t 0), none⟩, ⟨some 8, .len (.t 7), none⟩, ⟨some 9, .bin .sub (.t 6) (.t 8), none⟩, ⟨some 1, .mov (.t 9), none⟩]) laws_szDecS_b2)
def laws_szDecS_b0 : HCode := (.seq (.reg [⟨some 4, .mov (.c (.int .i64 0)), none⟩]) laws_szDecS_b1)
def laws_szDecS : HFunc := { np := 2, ntmps := 27, results := [(4, none)], body := laws_szDecS_b0 }
def laws_szExp_b9 : HCode := (.seq (.reg [⟨some 30, .mov (.t 1), none⟩, ⟨some 4, .mov (.t 30), none⟩]) .ret)
def laws_szExp_b11 : HCode := (.seq (.reg [⟨some 4, .mov (.c (.int .i64 (-1))), none⟩]) .ret)
def laws_szExp_b10 : HCode := (.cond (.t 29) laws_szExp_b11 .skip)
def laws_szExp_b8 : HCode := (.seq (.seq (.reg [⟨some 28, .mov (.t 1), none⟩, ⟨some 29, .bin .lss (.t 28) (.c (.int .i64 0)), none⟩]) laws_szExp_b10) laws_szExp_b9)
def laws_szExp_b7 : HCode := (.seq (.reg [⟨some 24, .faddr 5 (.t 2), none⟩, ⟨some 25, .load false 1 (.t 24), none⟩, ⟨some 26, .mov (.t 1), none⟩, ⟨some 27, .call (.c (.fn F.laws_szAltS [] [])) [(.t 25), (.t 26)], none⟩, ⟨some 1, .mov (.t 27), none⟩]) laws_szExp_b8)
def laws_szExp_b13 : HCode := (.seq (.reg [⟨some 4, .mov (.c (.int .i64 (-1))), none⟩]) .ret)
def laws_szExp_b12 : HCode := (.cond (.t 23) laws_szExp_b13 .skip)
def laws_szExp_b6 : HCode := (.seq (.seq (.reg [⟨some 22, .mov (.t 1), none⟩, ⟨some 23, .bin .lss (.t 22) (.c (.int .i64 0)), none⟩]) laws_szExp_b12) laws_szExp_b7)
def laws_szExp_b5 : HCode := (.seq (.reg [⟨some 18, .faddr 4 (.t 2), none⟩, ⟨some 19, .load false 1 (.t 18), none⟩, ⟨some 20, .mov (.t 1), none⟩, ⟨some 21, .call (.c (.fn F.laws_szDecS [] [])) [(.t 19), (.t 20)], none⟩, ⟨some 1, .mov (.t 21), none⟩]) laws_szExp_b6)
def laws_szExp_b15 : HCode := (.seq (.reg [⟨some 4, .mov (.c (.int .i64 (-1))), none⟩]) .ret)
def laws_szExp_b14 : HCode := (.cond (.t 17) laws_szExp_b15 .skip)
def laws_szExp_b4 : HCode := (.seq (.seq (.reg [⟨some 16, .mov (.t 1), none⟩, ⟨some 17, .bin .lss (.t 16) (.c (.int .i64 0)), none⟩]) laws_szExp_b14) laws_szExp_b5)
def laws_szExp_b3 : HCode := (.seq (.reg [⟨some 12, .faddr 3 (.t 2), none⟩, ⟨some 13, .load false 1 (.t 12), none⟩, ⟨some 14, .mov (.t 1), none⟩, ⟨some 15, .call (.c (.fn F.laws_szExpS [] [])) [(.t 13), (.t 14)], none⟩, ⟨some 1, .mov (.t 15), none⟩]) laws_szExp_b4)
def laws_szExp_b17 : HCode := (.seq (.reg [⟨some 4, .mov (.c (.int .i64 (-1))), none⟩]) .ret)
def laws_szExp_b16 : HCode := (.cond (.t 11) laws_szExp_b17 .skip)
def laws_szExp_b2 : HCode := (.seq (.seq (.reg [⟨some 10, .mov (.t 1), none⟩, ⟨some 11, .bin .lss (.t 10) (.c (.int .i64 0)), none⟩]) laws_szExp_b16) laws_szExp_b3)
def laws_szExp_b1 : HCode := (.seq (.reg [⟨some 5, .mov (.t 1), none⟩, ⟨some 6, .faddr 1 (.t 2), none⟩, ⟨some 7, .load false 1 (.t 6), none⟩, ⟨some 8, .slen (.t 7), none⟩, ⟨some 9, .bin .sub (.t 5) (.t 8), none⟩, ⟨some 1, .mov (.t 9), none⟩]) laws_szExp_b2)
def laws_szExp_b0 : HCode := (.seq (.reg [⟨some 2, .box (.t 0), none⟩, ⟨some 4, .mov (.c (.int .i64 0)), none⟩]) laws_szExp_b1)
def laws_szExp : HFunc := { np := 2, ntmps := 31, results := [(4, none)], body := laws_szExp_b0 }
def laws_szExpS_b4 : HCode := (.seq (.reg [⟨some 26, .mov (.t 1), none⟩, ⟨some 4, .mov (.t 26), none⟩]) .ret)
def laws_szExpS_b8 : HCode := (.reg [⟨some 16, .mov (.t 5), none⟩, ⟨some 17, .bin .add (.t 16) (.c (.int .i64 1)), none⟩, ⟨some 5, .mov (.t 17), none⟩])
def laws_szExpS_b11 : HCode := (.seq (.reg [⟨some 4, .mov (.c (.int .i64 (-1))), none⟩]) .ret)
def laws_szExpS_b10 : HCode := (.cond (.t 25) laws_szExpS_b11 .skip)
def laws_szExpS_b9 : HCode := (.seq (.reg [⟨some 24, .mov (.t 1), none⟩, ⟨some 25, .bin .lss (.t 24) (.c (.int .i64 0)), none⟩]) laws_szExpS_b10)
def laws_szExpS_b7 : HCode := (.seq (.block 1 (.seq (.reg [⟨some 18, .mov (.t 0), none⟩, ⟨some 19, .mov (.t 5), none⟩, ⟨some 20, .iaddr 6 (.t 18) (.t 19), none⟩, ⟨some 21, .load true 6 (.t 20), none⟩, ⟨some 22, .mov (.t 1), none⟩, ⟨some 23, .call (.c (.fn F.laws_szExp [] [])) [(.t 21), (.t 22)], none⟩, ⟨some 1, .mov (.t 23), none⟩]) laws_szExpS_b9)) laws_szExpS_b8)
def laws_szExpS_b12 : HCode := (.cond (.t 15) .skip (.exit 0))
def laws_szExpS_l6 : HCode := (.seq (.seq (.reg [⟨some 12, .mov (.t 5), none⟩, ⟨some 13, .mov (.t 0), none⟩, ⟨some 14, .len (.t 13), none⟩, ⟨some 15, .bin .lss (.t 12) (.t 14), none⟩]) laws_szExpS_b12) laws_szExpS_b7)
def laws_szExpS_b5 : HCode := (.block 0 (.loop laws_szExpS_l6))
def laws_szExpS_b3 : HCode := (.seq (.seq (.reg [⟨some 5, .mov (.c (.int .i64 0)), none⟩]) laws_szExpS_b5) laws_szExpS_b4)
def laws_szExpS_b14 : HCode := (.seq (.reg [⟨some 4, .mov (.c (.int .i64 (-1))), none⟩]) .ret)
def laws_szExpS_b13 : HCode := (.cond (.t 11) laws_szExpS_b14 .skip)
def laws_szExpS_b2 : HCode := (.seq (.seq (.reg [⟨some 10, .mov (.t 1), none⟩, ⟨some 11, .bin .lss (.t 10) (.c (.int .i64 0)), none⟩]) laws_szExpS_b13) laws_szExpS_b3)
def laws_szExpS_b1 : HCode := (.seq (.reg [⟨some 6, .mov (.t 1), none⟩, ⟨some 7, .mov (.t 0), none⟩, ⟨some 8, .len (.t 7), none⟩, ⟨some 9, .bin .sub (.t 6) (.t 8), none⟩, ⟨some 1, .mov (.t 9), none⟩]) laws_szExpS_b2)
def laws_szExpS_b0 : HCode := (.seq (.reg [⟨some 4, .mov (.c (.int .i64 0)), none⟩]) laws_szExpS_b1)
def laws_szExpS : HFunc := { np := 2, ntmps := 27, results := [(4, none)], body := laws_szExpS_b0 }
def laws_eqStringS_b3 : HCode := (.seq (.reg [⟨some 4, .mov (.c (.bool true)), none⟩]) .ret)
def laws_eqStringS_b7 : HCode := (.reg [⟨some 15, .mov (.t 5), none⟩, ⟨some 16, .bin .add (.t 15) (.c (.int .i64 1)), none⟩, ⟨some 5, .mov (.t 16), none⟩])
def laws_eqStringS_b9 : HCode := (.seq (.reg [⟨some 4, .mov (.c (.bool false)), none⟩]) .ret)
def laws_eqStringS_b8 : HCode := (.cond (.t 25) laws_eqStringS_b9 .skip)
def laws_eqStringS_b6 : HCode := (.seq (.block 1 (.seq (.dreg (.q ⟨some 17, .mov (.t 0), none⟩ (.q ⟨some 18, .mov (.t 5), none⟩ (.q ⟨some 19, .iaddr 1 (.t 17) (.t 18), none⟩ (.q ⟨some 20, .load false 1 (.t 19), none⟩ (.q ⟨some 21, .mov (.t 1), none⟩ (.q ⟨some 22, .mov (.t 5), none⟩ (.q ⟨some 23, .iaddr 1 (.t 21) (.t 22), none⟩ (.q ⟨some 24, .load false 1 (.t 23), none⟩ (.q ⟨some 25, .bin .neq (.t 20) (.t 24), none⟩ .done)))))))))) laws_eqStringS_b8)) laws_eqStringS_b7)
def laws_eqStringS_b10 : HCode := (.cond (.t 14) .skip (.exit 0))
def laws_eqStringS_l5 : HCode := (.seq (.seq (.reg [⟨some 11, .mov (.t 5), none⟩, ⟨some 12, .mov (.t 0), none⟩, ⟨some 13, .len (.t 12), none⟩, ⟨some 14, .bin .lss (.t 11) (.t 13), none⟩]) laws_eqStringS_b10) laws_eqStringS_b6)
def laws_eqStringS_b4 : HCode := (.block 0 (.loop laws_eqStringS_l5))
def laws_eqStringS_b2 : HCode := (.seq (.seq (.reg [⟨some 5, .mov (.c (.int .i64 0)), none⟩]) laws_eqStringS_b4) laws_eqStringS_b3)
def laws_eqStringS_b12 : HCode := (.seq (.reg [⟨some 4, .mov (.c (.bool false)), none⟩]) .ret)
def laws_eqStringS_b11 : HCode := (.cond (.t 10) laws_eqStringS_b12 .skip)
def laws_eqStringS_b1 : HCode := (.seq (.seq (.reg [⟨some 6, .mov (.t 0), none⟩, ⟨some 7, .len (.t 6), none⟩, ⟨some 8, .mov (.t 1), none⟩, ⟨some 9, .len (.t 8), none⟩, ⟨some 10, .bin .neq (.t 7) (.t 9), none⟩]) laws_eqStringS_b11) laws_eqStringS_b2)
def laws_eqStringS_b0 : HCode := (.seq (.reg [⟨some 4, .mov (.c (.bool false)), none⟩]) laws_eqStringS_b1)
def laws_eqStringS : HFunc := { np := 2, ntmps := 26, results := [(4, none)], body := laws_eqStringS_b0 }
def laws_eqAlt_b4 : HCode := (.seq (.reg [⟨some 4, .mov (.c (.bool true)), none⟩]) .ret)
def laws_eqAlt_b6 : HCode := (.seq (.reg [⟨some 4, .mov (.c (.bool false)), none⟩]) .ret)
def laws_eqAlt_b5 : HCode := (.cond (.t 21) laws_eqAlt_b6 .skip)
def laws_eqAlt_b3 : HCode := (.seq (.seq (.reg [⟨some 16, .faddr 2 (.t 2), none⟩, ⟨some 17, .load true 6 (.t 16), none⟩, ⟨some 18, .faddr 2 (.t 3), none⟩, ⟨some 19, .load true 6 (.t 18), none⟩, ⟨some 20, .call (.c (.fn F.laws_eqExp [] [])) [(.t 17), (.t 19)], none⟩, ⟨some 21, .not (.t 20), none⟩]) laws_eqAlt_b5) laws_eqAlt_b4)
def laws_eqAlt_b8 : HCode := (.seq (.reg [⟨some 4, .mov (.c (.bool false)), none⟩]) .ret)
def laws_eqAlt_b7 : HCode := (.cond (.t 15) laws_eqAlt_b8 .skip)
def laws_eqAlt_b2 : HCode := (.seq (.seq (.reg [⟨some 10, .faddr 1 (.t 2), none⟩, ⟨some 11, .load false 1 (.t 10), none⟩, ⟨some 12, .faddr 1 (.t 3), none⟩, ⟨some 13, .load false 1 (.t 12), none⟩, ⟨some 14, .call (.c (.fn F.laws_eqStringS [] [])) [(.t 11), (.t 13)], none⟩, ⟨some 15, .not (.t 14), none⟩]) laws_eqAlt_b7) laws_eqAlt_b3)
def laws_eqAlt_b10 : HCode := (.seq (.reg [⟨some 4, .mov (.c (.bool false)), none⟩]) .ret)
def laws_eqAlt_b9 : HCode := (.cond (.t 9) laws_eqAlt_b10 .skip)
def laws_eqAlt_b1 : HCode := (.seq (.seq (.reg [⟨some 5, .faddr 0 (.t 2), none⟩, ⟨some 6, .load false 1 (.t 5), none⟩, ⟨some 7, .faddr 0 (.t 3), none⟩, ⟨some 8, .load false 1 (.t 7), none⟩, ⟨some 9, .bin .neq (.t 6) (.t 8), none⟩]) laws_eqAlt_b9) laws_eqAlt_b2)
def laws_eqAlt_b0 : HCode := (.seq (.reg [⟨some 2, .box (.t 0), none⟩, ⟨some 3, .box (.t 1), none⟩, ⟨some 4, .mov (.c (.bool false)), none⟩]) laws_eqAlt_b1)
def laws_eqAlt : HFunc := { np := 2, ntmps := 22, results := [(4, none)], body := laws_eqAlt_b0 }
def laws_eqAltS_b3 : HCode := (.seq (.reg [⟨some 4, .mov (.c (.bool true)), none⟩]) .ret)
def laws_eqAltS_b7 : HCode := (.reg [⟨some 15, .mov (.t 5), none⟩, ⟨some 16, .bin .add (.t 15) (.c (.int .i64 1)), none⟩, ⟨some 5, .mov (.t 16), none⟩])
def laws_eqAltS_b9 : HCode := (.seq (.reg [⟨some 4, .mov (.c (.bool false)), none⟩]) .ret)
def laws_eqAltS_b8 : HCode := (.cond (.t 26) laws_eqAltS_b9 .skip)
def laws_eqAltS_b6 : HCode := (.seq (.block 1 (.seq (.dreg (.q ⟨some 17, .mov (.t 0), none⟩ (.q ⟨some 18, .mov (.t 5), none⟩ (.q ⟨some 19, .iaddr 8 (.t 17) (.t 18), none⟩ (.q ⟨some 20, .load true 8 (.t 19), none⟩ (.q ⟨some 21, .mov (.t 1), none⟩ (.q ⟨some 22, .mov (.t 5), none⟩ (.q ⟨some 23, .iaddr 8 (.t 21) (.t 22), none⟩ (.q ⟨some 24, .load true 8 (.t 23), none⟩ (.l ⟨some 25, .call (.c (.fn F.laws_eqAlt [] [])) [(.t 20), (.t 24)], none⟩ [] (.q ⟨some 26, .not (.t 25), none⟩ .done) .none)))))))))) laws_eqAltS_b8)) laws_eqAltS_b7)
def laws_eqAltS_b10 : HCode := (.cond (.t 14) .skip (.exit 0))
def laws_eqAltS_l5 : HCode := (.seq (.seq (.reg [⟨some 11, .mov (.t 5), none⟩, ⟨some 12, .mov (.t 0), none⟩, ⟨some 13, .len (.t 12), none⟩, ⟨some 14, .bin .lss (.t 11) (.t 13), none⟩]) laws_eqAltS_b10) laws_eqAltS_b6)
def laws_eqAltS_b4 : HCode := (.block 0 (.loop laws_eqAltS_l5))
def laws_eqAltS_b2 : HCode := (.seq (.seq (.reg [⟨some 5, .mov (.c (.int .i64 0)), none⟩]) laws_eqAltS_b4) laws_eqAltS_b3)
def laws_eqAltS_b12 : HCode := (.seq (.reg [⟨some 4, .mov (.c (.bool false)), none⟩]) .ret)
def laws_eqAltS_b11 : HCode := (.cond (.t 10) laws_eqAltS_b12 .skip)
def laws_eqAltS_b1 : HCode := (.seq (.seq (.reg [⟨some 6, .mov (.t 0), none⟩, ⟨some 7, .len (.t 6), none⟩, ⟨some 8, .mov (.t 1), none⟩, ⟨some 9, .len (.t 8), none⟩, ⟨some 10, .bin .neq (.t 7) (.t 9), none⟩]) laws_eqAltS_b11) laws_eqAltS_b2)
def laws_eqAltS_b0 : HCode := (.seq (.reg [⟨some 4, .mov (.c (.bool false)), none⟩]) laws_eqAltS_b1)
def laws_eqAltS : HFunc := { np := 2, ntmps := 27, results := [(4, none)], body := laws_eqAltS_b0 }
def laws_eqDec_b5 : HCode := (.seq (.reg [⟨some 4, .mov (.c (.bool true)), none⟩]) .ret)
def laws_eqDec_b7 : HCode := (.seq (.reg [⟨some 4, .mov (.c (.bool false)), none⟩]) .ret)
def laws_eqDec_b6 : HCode := (.cond (.t 27) laws_eqDec_b7 .skip)
def laws_eqDec_b4 : HCode := (.seq (.seq (.reg [⟨some 22, .faddr 8 (.t 2), none⟩, ⟨some 23, .load false 1 (.t 22), none⟩, ⟨some 24, .faddr 8 (.t 3), none⟩, ⟨some 25, .load false 1 (.t 24), none⟩, ⟨some 26, .call (.c (.fn F.laws_eqDecS [] [])) [(.t 23), (.t 25)], none⟩, ⟨some 27, .not (.t 26), none⟩]) laws_eqDec_b6) laws_eqDec_b5)
def laws_eqDec_b9 : HCode := (.seq (.reg [⟨some 4, .mov (.c (.bool false)), none⟩]) .ret)
def laws_eqDec_b8 : HCode := (.cond (.t 21) laws_eqDec_b9 .skip)
def laws_eqDec_b3 : HCode := (.seq (.seq (.reg [⟨some 16, .faddr 2 (.t 2), none⟩, ⟨some 17, .load true 6 (.t 16), none⟩, ⟨some 18, .faddr 2 (.t 3), none⟩, ⟨some 19, .load true 6 (.t 18), none⟩, ⟨some 20, .call (.c (.fn F.laws_eqExp [] [])) [(.t 17), (.t 19)], none⟩, ⟨some 21, .not (.t 20), none⟩]) laws_eqDec_b8) laws_eqDec_b4)
def laws_eqDec_b11 : HCode := (.seq (.reg [⟨some 4, .mov (.c (.bool false)), none⟩]) .ret)
def laws_eqDec_b10 : HCode := (.cond (.t 15) laws_eqDec_b11 .skip)
def laws_eqDec_b2 : HCode := (.seq (.seq (.reg [⟨some 10, .faddr 1 (.t 2), none⟩, ⟨some 11, .load false 1 (.t 10), none⟩, ⟨some 12, .faddr 1 (.t 3), none⟩, ⟨some 13, .load false 1 (.t 12), none⟩, ⟨some 14, .call (.c (.fn F.laws_eqStringS [] [])) [(.t 11), (.t 13)], none⟩, ⟨some 15, .not (.t 14), none⟩]) laws_eqDec_b10) laws_eqDec_b3)
def laws_eqDec_b13 : HCode := (.seq (.reg [⟨some 4, .mov (.c (.bool false)), none⟩]) .ret)
def laws_eqDec_b12 : HCode := (.cond (.t 9) laws_eqDec_b13 .skip)
def laws_eqDec_b1 : HCode := (.seq (.seq (.reg [⟨some 5, .faddr 0 (.t 2), none⟩, ⟨some 6, .load false 1 (.t 5), none⟩, ⟨some 7, .faddr 0 (.t 3), none⟩, ⟨some 8, .load false 1 (.t 7), none⟩, ⟨some 9, .bin .neq (.t 6) (.t 8), none⟩]) laws_eqDec_b12) laws_eqDec_b2)
def laws_eqDec_b0 : HCode := (.seq (.reg [⟨some 2, .box (.t 0), none⟩, ⟨some 3, .box (.t 1), none⟩, ⟨some 4, .mov (.c (.bool false)), none⟩]) laws_eqDec_b1)
def laws_eqDec : HFunc := { np := 2, ntmps := 28, results := [(4, none)], body := laws_eqDec_b0 }
def laws_eqDecS_b3 : HCode := (.seq (.reg [⟨some 4, .mov (.c (.bool true)), none⟩]) .ret)
def laws_eqDecS_b7 : HCode := (.reg [⟨some 15, .mov (.t 5), none⟩, ⟨some 16, .bin .add (.t 15) (.c (.int .i64 1)), none⟩, ⟨some 5, .mov (.t 16), none⟩])
def laws_eqDecS_b9 : HCode := (.seq (.reg [⟨some 4, .mov (.c (.bool false)), none⟩]) .ret)
def laws_eqDecS_b8 : HCode := (.cond (.t 26) laws_eqDecS_b9 .skip)
def laws_eqDecS_b6 : HCode := (.seq (.block 1 (.seq (.dreg (.q ⟨some 17, .mov (.t 0), none⟩ (.q ⟨some 18, .mov (.t 5), none⟩ (.q ⟨some 19, .iaddr 9 (.t 17) (.t 18), none⟩ (.q ⟨some 20, .load true 9 (.t 19), none⟩ (.q ⟨some 21, .mov (.t 1), none⟩ (.q ⟨some 22, .mov (.t 5), none⟩ (.q ⟨some 23, .iaddr 9 (.t 21) (.t 22), none⟩ (.q ⟨some 24, .load true 9 (.t 23), none⟩ (.l ⟨some 25, .call (.c (.fn F.laws_eqDec [] [])) [(.t 20), (.t 24)], none⟩ [] (.q ⟨some 26, .not (.t 25), none⟩ .done) .none)))))))))) laws_eqDecS_b8)) laws_eqDecS_b7)
def laws_eqDecS_b10 : HCode := (.cond (.t 14) .skip (.exit 0))
def laws_eqDecS_l5 : HCode := (.seq (.seq (.reg [⟨some 11, .mov (.t 5), none⟩, ⟨some 12, .mov (.t 0), none⟩, ⟨some 13, .len (.t 12), none⟩, ⟨some 14, .bin .lss (.t 11) (.t 13), none⟩]) laws_eqDecS_b10) laws_eqDecS_b6)
def laws_eqDecS_b4 : HCode := (.block 0 (.loop laws_eqDecS_l5))
def laws_eqDecS_b2 : HCode := (.seq (.seq (.reg [⟨some 5, .mov (.c (.int .i64 0)), none⟩]) laws_eqDecS_b4) laws_eqDecS_b3)
def laws_eqDecS_b12 : HCode := (.seq (.reg [⟨some 4, .mov (.c (.bool false)), none⟩]) .ret)
def laws_eqDecS_b11 : HCode := (.cond (.t 10) laws_eqDecS_b12 .skip)
def laws_eqDecS_b1 : HCode := (.seq (.seq (.reg [⟨some 6, .mov (.t 0), none⟩, ⟨some 7, .len (.t 6), none⟩, ⟨some 8, .mov (.t 1), none⟩, ⟨some 9, .len (.t 8), none⟩, ⟨some 10, .bin .neq (.t 7) (.t 9), none⟩]) laws_eqDecS_b11) laws_eqDecS_b2)
def laws_eqDecS_b0 : HCode := (.seq (.reg [⟨some 4, .mov (.c (.bool false)), none⟩]) laws_eqDecS_b1)
def laws_eqDecS : HFunc := { np := 2, ntmps := 27, results := [(4, none)], body := laws_eqDecS_b0 }
def laws_eqExp_b7 : HCode := (.seq (.reg [⟨some 4, .mov (.c (.bool true)), none⟩]) .ret)
def laws_eqExp_b9 : HCode := (.seq (.reg [⟨some 4, .mov (.c (.bool false)), none⟩]) .ret)
def laws_eqExp_b8 : HCode := (.cond (.t 37) laws_eqExp_b9 .skip)
def laws_eqExp_b6 : HCode := (.seq (.seq (.reg [⟨some 32, .faddr 5 (.t 2), none⟩, ⟨some 33, .load false 1 (.t 32), none⟩, ⟨some 34, .faddr 5 (.t 3), none⟩, ⟨some 35, .load false 1 (.t 34), none⟩, ⟨some 36, .call (.c (.fn F.laws_eqAltS [] [])) [(.t 33), (.t 35)], none⟩, ⟨some 37, .not (.t 36), none⟩]) laws_eqExp_b8) laws_eqExp_b7)
def laws_eqExp_b11 : HCode := (.seq (.reg [⟨some 4, .mov (.c (.bool false)), none⟩]) .ret)
def laws_eqExp_b10 : HCode := (.cond (.t 31) laws_eqExp_b11 .skip)
def laws_eqExp_b5 : HCode := (.seq (.seq (.reg [⟨some 26, .faddr 4 (.t 2), none⟩, ⟨some 27, .load false 1 (.t 26), none⟩, ⟨some 28, .faddr 4 (.t 3), none⟩, ⟨some 29, .load false 1 (.t 28), none⟩, ⟨some 30, .call (.c (.fn F.laws_eqDecS [] [])) [(.t 27), (.t 29)], none⟩, ⟨some 31, .not (.t 30), none⟩]) laws_eqExp_b10) laws_eqExp_b6)
def laws_eqExp_b13 : HCode := (.seq (.reg [⟨some 4, .mov (.c (.bool false)), none⟩]) .ret)
def laws_eqExp_b12 : HCode := (.cond (.t 25) laws_eqExp_b13 .skip)
def laws_eqExp_b4 : HCode := (.seq (.seq (.reg [⟨some 20, .faddr 3 (.t 2), none⟩, ⟨some 21, .load false 1 (.t 20), none⟩, ⟨some 22, .faddr 3 (.t 3), none⟩, ⟨some 23, .load false 1 (.t 22), none⟩, ⟨some 24, .call (.c (.fn F.laws_eqExpS [] [])) [(.t 21), (.t 23)], none⟩, ⟨some 25, .not (.t 24), none⟩]) laws_eqExp_b12) laws_eqExp_b5)
def laws_eqExp_b15 : HCode := (.seq (.reg [⟨some 4, .mov (.c (.bool false)), none⟩]) .ret)
def laws_eqExp_b14 : HCode := (.cond (.t 19) laws_eqExp_b15 .skip)
def laws_eqExp_b3 : HCode := (.seq (.seq (.reg [⟨some 15, .faddr 2 (.t 2), none⟩, ⟨some 16, .load false 1 (.t 15), none⟩, ⟨some 17, .faddr 2 (.t 3), none⟩, ⟨some 18, .load false 1 (.t 17), none⟩, ⟨some 19, .bin .neq (.t 16) (.t 18), none⟩]) laws_eqExp_b14) laws_eqExp_b4)
def laws_eqExp_b17 : HCode := (.seq (.reg [⟨some 4, .mov (.c (.bool false)), none⟩]) .ret)
def laws_eqExp_b16 : HCode := (.cond (.t 14) laws_eqExp_b17 .skip)
def laws_eqExp_b2 : HCode := (.seq (.seq (.reg [⟨some 10, .faddr 1 (.t 2), none⟩, ⟨some 11, .load false 1 (.t 10), none⟩, ⟨some 12, .faddr 1 (.t 3), none⟩, ⟨some 13, .load false 1 (.t 12), none⟩, ⟨some 14, .bin .neq (.t 11) (.t 13), none⟩]) laws_eqExp_b16) laws_eqExp_b3)
def laws_eqExp_b19 : HCode := (.seq (.reg [⟨some 4, .mov (.c (.bool false)), none⟩]) .ret)
def laws_eqExp_b18 : HCode := (.cond (.t 9) laws_eqExp_b19 .skip)
def laws_eqExp_b1 : HCode := (.seq (.seq (.reg [⟨some 5, .faddr 0 (.t 2), none⟩, ⟨some 6, .load false 1 (.t 5), none⟩, ⟨some 7, .faddr 0 (.t 3), none⟩, ⟨some 8, .load false 1 (.t 7), none⟩, ⟨some 9, .bin .neq (.t 6) (.t 8), none⟩]) laws_eqExp_b18) laws_eqExp_b2)
def laws_eqExp_b0 : HCode := (.seq (.reg [⟨some 2, .box (.t 0), none⟩, ⟨some 3, .box (.t 1), none⟩, ⟨some 4, .mov (.c (.bool false)), none⟩]) laws_eqExp_b1)
def laws_eqExp : HFunc := { np := 2, ntmps := 38, results := [(4, none)], body := laws_eqExp_b0 }
def laws_eqExpS_b3 : HCode := (.seq (.reg [⟨some 4, .mov (.c (.bool true)), none⟩]) .ret)
def laws_eqExpS_b7 : HCode := (.reg [⟨some 15, .mov (.t 5), none⟩, ⟨some 16, .bin .add (.t 15) (.c (.int .i64 1)), none⟩, ⟨some 5, .mov (.t 16), none⟩])
def laws_eqExpS_b9 : HCode := (.seq (.reg [⟨some 4, .mov (.c (.bool false)), none⟩]) .ret)
def laws_eqExpS_b8 : HCode := (.cond (.t 26) laws_eqExpS_b9 .skip)
def laws_eqExpS_b6 : HCode := (.seq (.block 1 (.seq (.dreg (.q ⟨some 17, .mov (.t 0), none⟩ (.q ⟨some 18, .mov (.t 5), none⟩ (.q ⟨some 19, .iaddr 6 (.t 17) (.t 18), none⟩ (.q ⟨some 20, .load true 6 (.t 19), none⟩ (.q ⟨some 21, .mov (.t 1), none⟩ (.q ⟨some 22, .mov (.t 5), none⟩ (.q ⟨some 23, .iaddr 6 (.t 21) (.t 22), none⟩ (.q ⟨some 24, .load true 6 (.t 23), none⟩ (.l ⟨some 25, .call (.c (.fn F.laws_eqExp [] [])) [(.t 20), (.t 24)], none⟩ [] (.q ⟨some 26, .not (.t 25), none⟩ .done) .none)))))))))) laws_eqExpS_b8)) laws_eqExpS_b7)
def laws_eqExpS_b10 : HCode := (.cond (.t 14) .skip (.exit 0))
def laws_eqExpS_l5 : HCode := (.seq (.seq (.reg [⟨some 11, .mov (.t 5), none⟩, ⟨some 12, .mov (.t 0), none⟩, ⟨some 13, .len (.t 12), none⟩, ⟨some 14, .bin .lss (.t 11) (.t 13), none⟩]) laws_eqExpS_b10) laws_eqExpS_b6)
def laws_eqExpS_b4 : HCode := (.block 0 (.loop laws_eqExpS_l5))
def laws_eqExpS_b2 : HCode := (.seq (.seq (.reg [⟨some 5, .mov (.c (.int .i64 0)), none⟩]) laws_eqExpS_b4) laws_eqExpS_b3)
def laws_eqExpS_b12 : HCode := (.seq (.reg [⟨some 4, .mov (.c (.bool false)), none⟩]) .ret)
def laws_eqExpS_b11 : HCode := (.cond (.t 10) laws_eqExpS_b12 .skip)
def laws_eqExpS_b1 : HCode := (.seq (.seq (.reg [⟨some 6, .mov (.t 0), none⟩, ⟨some 7, .len (.t 6), none⟩, ⟨some 8, .mov (.t 1), none⟩, ⟨some 9, .len (.t 8), none⟩, ⟨some 10, .bin .neq (.t 7) (.t 9), none⟩]) laws_eqExpS_b11) laws_eqExpS_b2)
def laws_eqExpS_b0 : HCode := (.seq (.reg [⟨some 4, .mov (.c (.bool false)), none⟩]) laws_eqExpS_b1)
def laws_eqExpS : HFunc := { np := 2, ntmps := 27, results := [(4, none)], body := laws_eqExpS_b0 }
def laws_FnExactIsBare_b9 : HCode := (.seq (.reg [⟨some 2, .mov (.c (.bool true)), none⟩]) .ret)
def laws_FnExactIsBare_b11 : HCode := (.seq (.reg [⟨some 2, .mov (.c (.bool false)), none⟩]) .ret)
def laws_FnExactIsBare_b10 : HCode := (.cond (.t 26) laws_FnExactIsBare_b11 .skip)
def laws_FnExactIsBare_b8 : HCode := (.seq (.seq (.dreg (.q ⟨some 22, .load true 6 (.t 5), none⟩ (.q ⟨some 23, .load true 6 (.t 1), none⟩ (.l ⟨some 24, .call (.c (.fn F.laws_toExp [] [])) [(.t 23)], none⟩ [⟨some 22, .load true 6 (.t 5), none⟩] (.l ⟨some 25, .call (.c (.fn F.laws_eqExp [] [])) [(.t 22), (.t 24)], none⟩ [] (.q ⟨some 26, .not (.t 25), none⟩ .done) .none) .none)))) laws_FnExactIsBare_b10) laws_FnExactIsBare_b9)
def laws_FnExactIsBare_b13 : HCode := (.seq (.reg [⟨some 2, .mov (.c (.bool false)), none⟩]) .ret)
def laws_FnExactIsBare_b12 : HCode := (.cond (.t 21) laws_FnExactIsBare_b13 .skip)
def laws_FnExactIsBare_b7 : HCode := (.seq (.seq (.reg [⟨some 19, .mov (.t 6), none⟩, ⟨some 20, .mov (.t 4), none⟩, ⟨some 21, .bbin .neq (.t 19) (.t 20), none⟩]) laws_FnExactIsBare_b12) laws_FnExactIsBare_b8)
def laws_FnExactIsBare_b6 : HCode := (.seq (.reg [⟨some 17, .load true 6 (.t 5), none⟩, ⟨some 18, .call (.c (.fn F.impl_IsBare [] [])) [(.t 17)], none⟩, ⟨some 6, .mov (.t 18), none⟩]) laws_FnExactIsBare_b7)
def laws_FnExactIsBare_b5 : HCode := (.seq (.reg [⟨some 15, .load true 6 (.t 1), none⟩, ⟨some 16, .call (.c (.fn F.laws_toExp [] [])) [(.t 15)], none⟩, ⟨some 5, .alloc (.agg [(.int .i64 0), (.str ⟨⟨[]⟩⟩), (.int .i64 0), .nils, .nils, .nils]), none⟩, ⟨none, .store 6 (.t 5) (.t 16), none⟩]) laws_FnExactIsBare_b6)
def laws_FnExactIsBare_b4 : HCode := (.seq (.reg [⟨some 12, .load true 6 (.t 1), none⟩, ⟨some 13, .call (.c (.fn F.laws_toExp [] [])) [(.t 12)], none⟩, ⟨some 14, .call (.c (.fn F.spec_IsBare [] [])) [(.t 13)], none⟩, ⟨some 4, .mov (.t 14), none⟩]) laws_FnExactIsBare_b5)
def laws_FnExactIsBare_b15 : HCode := (.seq (.reg [⟨some 2, .mov (.c (.bool true)), none⟩]) .ret)
def laws_FnExactIsBare_b14 : HCode := (.cond (.t 11) laws_FnExactIsBare_b15 .skip)
def laws_FnExactIsBare_b3 : HCode := (.seq (.seq (.reg [⟨some 10, .mov (.t 3), none⟩, ⟨some 11, .bin .lss (.t 10) (.c (.int .i64 0)), none⟩]) laws_FnExactIsBare_b14) laws_FnExactIsBare_b4)
def laws_FnExactIsBare_b2 : HCode := (.seq (.reg [⟨some 7, .load true 6 (.t 1), none⟩, ⟨some 8, .mov (.t 3), none⟩, ⟨some 9, .call (.c (.fn F.laws_szExp [] [])) [(.t 7), (.t 8)], none⟩, ⟨some 3, .mov (.t 9), none⟩]) laws_FnExactIsBare_b3)
def laws_FnExactIsBare_b1 : HCode := (.seq (.reg [⟨some 3, .mov (.c (.int .i64 1048576)), none⟩]) laws_FnExactIsBare_b2)
def laws_FnExactIsBare_b0 : HCode := (.seq (.reg [⟨some 1, .box (.t 0), none⟩, ⟨some 2, .mov (.c (.bool false)), none⟩]) laws_FnExactIsBare_b1)
def laws_FnExactIsBare : HFunc := { np := 1, ntmps := 27, results := [(2, none)], body := laws_FnExactIsBare_b0 }
end H
namespace S
noncomputable abbrev P : Program := Go.Proofs.Try.prog
theorem slices_Clone_string : stripF P F.slices_Clone_string = some H.slices_Clone_string := by kernel_rfl
theorem impl_IsBare_1_1 : stripF P F.impl_IsBare_1_1 = some H.impl_IsBare_1_1 := by kernel_rfl
theorem slices_IndexFunc_impl_Dec : stripF P F.slices_IndexFunc_impl_Dec = some H.slices_IndexFunc_impl_Dec := by kernel_rfl
theorem slices_ContainsFunc_impl_Dec : stripF P F.slices_ContainsFunc_impl_Dec = some H.slices_ContainsFunc_impl_Dec := by kernel_rfl
theorem impl_IsBare_1 : stripF P F.impl_IsBare_1 = some H.impl_IsBare_1 := by kernel_rfl
theorem impl_counted_1 : stripF P F.impl_counted_1 = some H.impl_counted_1 := by kernel_rfl
theorem impl_counted : stripF P F.impl_counted = some H.impl_counted := by kernel_rfl
theorem impl_mappedDecs : stripF P F.impl_mappedDecs = some H.impl_mappedDecs := by kernel_rfl
theorem impl_mapped : stripF P F.impl_mapped = some H.impl_mapped := by kernel_rfl
theorem impl_IsBare : stripF P F.impl_IsBare = some H.impl_IsBare := by kernel_rfl
theorem spec_IsBare : stripF P F.spec_IsBare = some H.spec_IsBare := by kernel_rfl
theorem spec_l11Is : stripF P F.spec_l11Is = some H.spec_l11Is := by kernel_rfl
theorem laws_toStringS : stripF P F.laws_toStringS = some H.laws_toStringS := by kernel_rfl
theorem laws_toAlt : stripF P F.laws_toAlt = some H.laws_toAlt := by kernel_rfl
theorem laws_toAltS : stripF P F.laws_toAltS = some H.laws_toAltS := by kernel_rfl
theorem laws_toDec : stripF P F.laws_toDec = some H.laws_toDec := by kernel_rfl
theorem laws_toDecS : stripF P F.laws_toDecS = some H.laws_toDecS := by kernel_rfl
theorem laws_toExp : stripF P F.laws_toExp = some H.laws_toExp := by kernel_rfl
theorem laws_toExpS : stripF P F.laws_toExpS = some H.laws_toExpS := by kernel_rfl
theorem laws_szStringS : stripF P F.laws_szStringS = some H.laws_szStringS := by kernel_rfl
theorem laws_szAlt : stripF P F.laws_szAlt = some H.laws_szAlt := by kernel_rfl
theorem laws_szAltS : stripF P F.laws_szAltS = some H.laws_szAltS := by kernel_rfl
theorem laws_szDec : stripF P F.laws_szDec = some H.laws_szDec := by kernel_rfl
theorem laws_szDecS : stripF P F.laws_szDecS = some H.laws_szDecS := by kernel_rfl
theorem laws_szExp : stripF P F.laws_szExp = some H.laws_szExp := by kernel_rfl
theorem laws_szExpS : stripF P F.laws_szExpS = some H.laws_szExpS := by kernel_rfl
theorem laws_eqStringS : stripF P F.laws_eqStringS = some H.laws_eqStringS := by kernel_rfl
theorem laws_eqAlt : stripF P F.laws_eqAlt = some H.laws_eqAlt := by kernel_rfl
theorem laws_eqAltS : stripF P F.laws_eqAltS = some H.laws_eqAltS := by kernel_rfl
theorem laws_eqDec : stripF P F.laws_eqDec = some H.laws_eqDec := by kernel_rfl
theorem laws_eqDecS : stripF P F.laws_eqDecS = some H.laws_eqDecS := by kernel_rfl
theorem laws_eqExp : stripF P F.laws_eqExp = some H.laws_eqExp := by kernel_rfl
theorem laws_eqExpS : stripF P F.laws_eqExpS = some H.laws_eqExpS := by kernel_rfl
theorem laws_FnExactIsBare : stripF P F.laws_FnExactIsBare = some H.laws_FnExactIsBare := by kernel_rfl
end S
end W
