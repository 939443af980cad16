import Derived.Test.YtnhdobhfebiggaaHLVc
import Derived.KernelRfl
import Derived.Test.YtnhdobhfebiggaaProg
namespace W
open Go HL
set_option maxRecDepth 1000000
namespace F
abbrev main_main : Nat := 0
abbrev gosem_cut : Nat := 1
abbrev gosem_cut_init : Nat := 2
abbrev laws_FnExactSameTy : Nat := 3
abbrev laws_FnExactBlocks : Nat := 4
abbrev laws_FnExactVarsOf : Nat := 5
abbrev laws_FnExactLex : Nat := 6
abbrev laws_FnExactSameExp : Nat := 7
abbrev laws_FnExactIsBare : Nat := 8
abbrev laws_FnLex : Nat := 9
abbrev laws_FnExactDataOf : Nat := 10
abbrev laws_FnExactArityOf : Nat := 11
abbrev laws_FnExactSameProg : Nat := 12
abbrev laws_szTy : Nat := 13
abbrev spec_SameTy : Nat := 14
abbrev laws_toTy : Nat := 15
abbrev impl_SameTy : Nat := 16
abbrev laws_eqTy : Nat := 17
abbrev laws_szTokS : Nat := 18
abbrev spec_Blocks : Nat := 19
abbrev laws_toTokS : Nat := 20
abbrev impl_Blocks : Nat := 21
abbrev laws_eqTokS : Nat := 22
abbrev spec_VarsOf : Nat := 23
abbrev impl_VarsOf : Nat := 24
abbrev laws_eqIntS : Nat := 25
abbrev laws_markTy : Nat := 26
abbrev laws_markIntS : Nat := 27
abbrev laws_heldIntS : Nat := 28
abbrev spec_Lex : Nat := 29
abbrev impl_Lex : Nat := 30
abbrev laws_markTokS : Nat := 31
abbrev laws_heldTokS : Nat := 32
abbrev laws_szExp : Nat := 33
abbrev spec_SameExp : Nat := 34
abbrev laws_toExp : Nat := 35
abbrev impl_SameExp : Nat := 36
abbrev laws_eqExp : Nat := 37
abbrev spec_IsBare : Nat := 38
abbrev impl_IsBare : Nat := 39
abbrev laws_big : Nat := 40
abbrev spec_DrawLex : Nat := 41
abbrev spec_DrawNameOk : Nat := 42
abbrev spec_DrawGreatOk : Nat := 43
abbrev laws_sameToks : Nat := 44
abbrev impl_NameOk : Nat := 45
abbrev spec_NameOk : Nat := 46
abbrev impl_GreatOk : Nat := 47
abbrev spec_GreatOk : Nat := 48
abbrev impl_TokText : Nat := 49
abbrev laws_szProg : Nat := 50
abbrev spec_DataOf : Nat := 51
abbrev laws_toProg : Nat := 52
abbrev impl_DataOf : Nat := 53
abbrev laws_eqProg : Nat := 54
abbrev spec_ArityOf : Nat := 55
abbrev impl_ArityOf : Nat := 56
abbrev spec_SameProg : Nat := 57
abbrev impl_SameProg : Nat := 58
abbrev laws_szTyS : Nat := 59
abbrev laws_toTyS : Nat := 60
abbrev slices_EqualFunc_impl_Ty : Nat := 61
abbrev laws_eqTyS : Nat := 62
abbrev laws_szTok : Nat := 63
abbrev spec_l2Is : Nat := 64
abbrev laws_toTok : Nat := 65
abbrev slices_DeleteFunc_impl_Tok : Nat := 66
abbrev slices_Clone_impl_Tok : Nat := 67
abbrev impl_Blocks_1 : Nat := 68
abbrev impl_isMark : Nat := 69
abbrev laws_eqTok : Nat := 70
abbrev spec_l9Vars : Nat := 71
abbrev impl_varsIn : Nat := 72
abbrev laws_markTyS : Nat := 73
abbrev spec_l1Skip : Nat := 74
abbrev spec_l1Next : Nat := 75
abbrev spec_l1Place : Nat := 76
abbrev impl_passed : Nat := 77
abbrev impl_nextTok : Nat := 78
abbrev laws_markText : Nat := 79
abbrev laws_szExpS : Nat := 80
abbrev laws_szDecS : Nat := 81
abbrev laws_szAltS : Nat := 82
abbrev spec_l3SameDecs : Nat := 83
abbrev spec_l3SameTexts : Nat := 84
abbrev laws_toExpS : Nat := 85
abbrev laws_toDecS : Nat := 86
abbrev laws_toAltS : Nat := 87
abbrev slices_EqualFunc_impl_Exp : Nat := 88
abbrev slices_EqualFunc_impl_Dec : Nat := 89
abbrev impl_sameDec : Nat := 90
abbrev slices_EqualFunc_impl_Alt : Nat := 91
abbrev impl_sameAlt : Nat := 92
abbrev laws_eqExpS : Nat := 93
abbrev laws_eqDecS : Nat := 94
abbrev laws_eqAltS : Nat := 95
abbrev spec_l11Is : Nat := 96
abbrev impl_counted : Nat := 97
abbrev impl_IsBare_1 : Nat := 98
abbrev slices_ContainsFunc_impl_Dec : Nat := 99
abbrev impl_IsBare_1_1 : Nat := 100
abbrev spec_l1New : Nat := 101
abbrev spec_l1Text : Nat := 102
abbrev spec_l1Below : Nat := 103
abbrev spec_l1Str : Nat := 104
abbrev spec_l1Prog : Nat := 105
abbrev spec_l1Once : Nat := 106
abbrev impl_wordLike : Nat := 107
abbrev slices_Contains_string : Nat := 108
abbrev impl_words : Nat := 109
abbrev spec_l1Letters : Nat := 110
abbrev spec_l1Small : Nat := 111
abbrev spec_l1IsWord : Nat := 112
abbrev spec_l1Large : Nat := 113
abbrev strings_Join : Nat := 114
abbrev laws_szDataS : Nat := 115
abbrev laws_toDataS : Nat := 116
abbrev impl_isBool : Nat := 117
abbrev impl_conOf : Nat := 118
abbrev laws_eqDataS : Nat := 119
abbrev spec_l3SameData : Nat := 120
abbrev slices_EqualFunc_impl_Data : Nat := 121
abbrev impl_sameData : Nat := 122
abbrev slices_IndexFunc_impl_Tok : Nat := 123
abbrev spec_l9Has : Nat := 124
abbrev slices_Contains_int : Nat := 125
abbrev spec_l1Digit : Nat := 126
abbrev spec_l1NumOk : Nat := 127
abbrev spec_l1Letter : Nat := 128
abbrev spec_l1Kind : Nat := 129
abbrev spec_l1Has : Nat := 130
abbrev strings_HasPrefix : Nat := 131
abbrev impl_runLen : Nat := 132
abbrev impl_passed_1 : Nat := 133
abbrev impl_isLetter : Nat := 134
abbrev impl_nextTok_1 : Nat := 135
abbrev impl_isDigit : Nat := 136
abbrev impl_numberLike : Nat := 137
abbrev slices_Contains_byte : Nat := 138
abbrev laws_szDec : Nat := 139
abbrev laws_szAlt : Nat := 140
abbrev laws_toDec : Nat := 141
abbrev laws_toAlt : Nat := 142
abbrev slices_Equal_string : Nat := 143
abbrev laws_eqDec : Nat := 144
abbrev laws_eqAlt : Nat := 145
abbrev impl_mapped : Nat := 146
abbrev impl_counted_1 : Nat := 147
abbrev slices_IndexFunc_impl_Dec : Nat := 148
abbrev spec_l1Word : Nat := 149
abbrev spec_l1Byte : Nat := 150
abbrev impl_in : Nat := 151
abbrev slices_Index_string : Nat := 152
abbrev spec_l1In : Nat := 153
abbrev strings_Builder_Grow : Nat := 154
abbrev strings_Builder_WriteString : Nat := 155
abbrev strings_Builder_String : Nat := 156
abbrev laws_szData : Nat := 157
abbrev laws_toData : Nat := 158
abbrev laws_eqData : Nat := 159
abbrev slices_EqualFunc_impl_Con : Nat := 160
abbrev impl_sameCon : Nat := 161
abbrev slices_Index_int : Nat := 162
abbrev internal_stringslite_HasPrefix : Nat := 163
abbrev slices_Index_byte : Nat := 164
abbrev laws_szStringS : Nat := 165
abbrev laws_toStringS : Nat := 166
abbrev laws_eqStringS : Nat := 167
abbrev impl_mappedDecs : Nat := 168
abbrev slices_Clone_string : Nat := 169
abbrev strings_Builder_copyCheck : Nat := 170
abbrev strings_Builder_grow : Nat := 171
abbrev laws_szConS : Nat := 172
abbrev laws_toConS : Nat := 173
abbrev laws_eqConS : Nat := 174
abbrev internal_abi_NoEscape : Nat := 175
abbrev internal_bytealg_MakeNoZero : Nat := 176
abbrev laws_szCon : Nat := 177
abbrev laws_toCon : Nat := 178
abbrev laws_eqCon : Nat := 179
abbrev runtime_boundsError_Error : Nat := 180
abbrev runtime_boundsError_RuntimeError : Nat := 181
abbrev runtime_errorString_Error : Nat := 182
abbrev runtime_errorString_RuntimeError : Nat := 183
abbrev runtime_plainError_Error : Nat := 184
abbrev runtime_plainError_RuntimeError : Nat := 185
abbrev runtime_errorAddressString_Error : Nat := 186
abbrev runtime_errorAddressString_RuntimeError : Nat := 187
abbrev runtime_TypeAssertionError_Error : Nat := 188
abbrev runtime_TypeAssertionError_RuntimeError : Nat := 189
abbrev runtime_PanicNilError_Error : Nat := 190
abbrev runtime_PanicNilError_RuntimeError : Nat := 191
abbrev internal_abi_Type_Align : Nat := 192
abbrev internal_runtime_maps_unhashableTypeError_Error : Nat := 193
abbrev internal_runtime_maps_unhashableTypeError_RuntimeError : Nat := 194
abbrev strings_Builder_Reset : Nat := 195
abbrev internal_abi_Kind_String : Nat := 196
end F
namespace H
def impl_SameTy_b1 : HCode :=
  (.seq (.reg [⟨(some 5), .faddr 0 (.t 2), none⟩,
    ⟨(some 6), .load false 1 (.t 5), none⟩,
    ⟨(some 7), .faddr 0 (.t 3), none⟩,
    ⟨(some 8), .load false 1 (.t 7), none⟩,
    ⟨(some 9), .bin .eql (.t 6) (.t 8), none⟩,
    ⟨(some 10), .mov (.t 9), none⟩,
    ⟨(some 11), .faddr 1 (.t 2), (some (10, true))⟩,
    ⟨(some 12), .load false 1 (.t 11), (some (10, true))⟩,
    ⟨(some 13), .faddr 1 (.t 3), (some (10, true))⟩,
    ⟨(some 14), .load false 1 (.t 13), (some (10, true))⟩,
    ⟨(some 15), .bin .eql (.t 12) (.t 14), (some (10, true))⟩,
    ⟨(some 16), .pick (.t 10) (.t 15) (.c (.bool false)), none⟩,
    ⟨(some 17), .mov (.t 16), none⟩,
    ⟨(some 18), .faddr 2 (.t 2), (some (17, true))⟩,
    ⟨(some 19), .load false 1 (.t 18), (some (17, true))⟩,
    ⟨(some 20), .faddr 2 (.t 3), (some (17, true))⟩,
    ⟨(some 21), .load false 1 (.t 20), (some (17, true))⟩,
    ⟨(some 22), .bin .eql (.t 19) (.t 21), (some (17, true))⟩,
    ⟨(some 23), .pick (.t 17) (.t 22) (.c (.bool false)), none⟩,
    ⟨(some 24), .mov (.t 23), none⟩,
    ⟨(some 25), .faddr 3 (.t 2), (some (24, true))⟩,
    ⟨(some 26), .load false 1 (.t 25), (some (24, true))⟩,
    ⟨(some 27), .faddr 3 (.t 3), (some (24, true))⟩,
    ⟨(some 28), .load false 1 (.t 27), (some (24, true))⟩,
    ⟨(some 29), .call (.c (.fn F.slices_EqualFunc_impl_Ty [] [])) [(.t 26), (.t 28), (.c (.fn F.impl_SameTy [] []))], (some (24, true))⟩,
    ⟨(some 30), .pick (.t 24) (.t 29) (.c (.bool false)), none⟩,
    ⟨(some 4), .mov (.t 30), none⟩]) .ret)
def impl_SameTy_b0 : HCode :=
  (.seq (.reg [⟨(some 2), .box (.t 0), none⟩,
    ⟨(some 3), .box (.t 1), none⟩,
    ⟨(some 4), .mov (.c (.bool false)), none⟩]) impl_SameTy_b1)
def impl_SameTy : HFunc :=
  { np := 2, ntmps := 31, results := [(4, none)], body := impl_SameTy_b0 }
def slices_EqualFunc_impl_Ty_b3 : HCode :=
  (.seq (.reg [⟨(some 6), .mov (.c (.bool true)), none⟩]) .ret)
def slices_EqualFunc_impl_Ty_b8 : HCode :=
  (.reg [⟨(some 31), .bin .add (.t 17) (.c (.int .i64 1)), none⟩,
    ⟨(some 17), .mov (.t 31), none⟩])
def slices_EqualFunc_impl_Ty_b12 : HCode :=
  (.seq (.reg [⟨(some 6), .mov (.c (.bool false)), none⟩]) .ret)
def slices_EqualFunc_impl_Ty_b11 : HCode :=
  (.cond (.t 30) slices_EqualFunc_impl_Ty_b12 .skip)
def slices_EqualFunc_impl_Ty_b10 : HCode :=
  (.seq (.reg [⟨(some 26), .mov (.t 2), none⟩,
    ⟨(some 27), .load true 4 (.t 8), none⟩,
    ⟨(some 28), .load true 4 (.t 9), none⟩,
    ⟨(some 29), .call (.t 26) [(.t 27), (.t 28)], none⟩,
    ⟨(some 30), .not (.t 29), none⟩]) slices_EqualFunc_impl_Ty_b11)
def slices_EqualFunc_impl_Ty_b9 : HCode :=
  (.seq (.reg [⟨(some 22), .mov (.t 1), none⟩,
    ⟨(some 23), .mov (.t 7), none⟩,
    ⟨(some 24), .iaddr 4 (.t 22) (.t 23), none⟩,
    ⟨(some 25), .load true 4 (.t 24), none⟩,
    ⟨(some 9), .alloc (.agg [(.int .i64 0), (.str ⟨⟨[]⟩⟩), (.int .i64 0), .nils]), none⟩,
    ⟨none, .store 4 (.t 9) (.t 25), none⟩]) slices_EqualFunc_impl_Ty_b10)
def slices_EqualFunc_impl_Ty_b7 : HCode :=
  (.seq (.block 1 (.seq (.reg [⟨(some 19), .mov (.t 17), none⟩,
    ⟨(some 20), .iaddr 4 (.t 15) (.t 17), none⟩,
    ⟨(some 21), .load true 4 (.t 20), none⟩,
    ⟨(some 8), .alloc (.agg [(.int .i64 0), (.str ⟨⟨[]⟩⟩), (.int .i64 0), .nils]), none⟩,
    ⟨(some 7), .mov (.t 19), none⟩,
    ⟨none, .store 4 (.t 8) (.t 21), none⟩]) slices_EqualFunc_impl_Ty_b9)) slices_EqualFunc_impl_Ty_b8)
def slices_EqualFunc_impl_Ty_b6 : HCode :=
  (.seq (.cond (.t 18) .skip (.exit 0)) slices_EqualFunc_impl_Ty_b7)
def slices_EqualFunc_impl_Ty_l5 : HCode :=
  (.seq (.reg [⟨(some 18), .bin .lss (.t 17) (.t 16), none⟩]) slices_EqualFunc_impl_Ty_b6)
def slices_EqualFunc_impl_Ty_b4 : HCode :=
  (.block 0 (.loop slices_EqualFunc_impl_Ty_l5))
def slices_EqualFunc_impl_Ty_b2 : HCode :=
  (.seq (.seq (.reg [⟨(some 15), .mov (.t 0), none⟩,
    ⟨(some 16), .len (.t 15), none⟩,
    ⟨(some 17), .mov (.c (.int .i64 0)), none⟩]) slices_EqualFunc_impl_Ty_b4) slices_EqualFunc_impl_Ty_b3)
def slices_EqualFunc_impl_Ty_b14 : HCode :=
  (.seq (.reg [⟨(some 6), .mov (.c (.bool false)), none⟩]) .ret)
def slices_EqualFunc_impl_Ty_b13 : HCode :=
  (.cond (.t 14) slices_EqualFunc_impl_Ty_b14 .skip)
def slices_EqualFunc_impl_Ty_b1 : HCode :=
  (.seq (.seq (.reg [⟨(some 10), .mov (.t 0), none⟩,
    ⟨(some 11), .len (.t 10), none⟩,
    ⟨(some 12), .mov (.t 1), none⟩,
    ⟨(some 13), .len (.t 12), none⟩,
    ⟨(some 14), .bin .neq (.t 11) (.t 13), none⟩]) slices_EqualFunc_impl_Ty_b13) slices_EqualFunc_impl_Ty_b2)
def slices_EqualFunc_impl_Ty_b0 : HCode :=
  (.seq (.reg [⟨(some 6), .mov (.c (.bool false)), none⟩]) slices_EqualFunc_impl_Ty_b1)
def slices_EqualFunc_impl_Ty : HFunc :=
  { np := 3, ntmps := 32, results := [(6, none)], body := slices_EqualFunc_impl_Ty_b0 }
def laws_eqTy_b5 : HCode :=
  (.seq (.reg [⟨(some 4), .mov (.c (.bool true)), none⟩]) .ret)
def laws_eqTy_b7 : HCode :=
  (.seq (.reg [⟨(some 4), .mov (.c (.bool false)), none⟩]) .ret)
def laws_eqTy_b6 : HCode :=
  (.cond (.t 25) laws_eqTy_b7 .skip)
def laws_eqTy_b4 : HCode :=
  (.seq (.seq (.reg [⟨(some 20), .faddr 3 (.t 2), none⟩,
    ⟨(some 21), .load false 1 (.t 20), none⟩,
    ⟨(some 22), .faddr 3 (.t 3), none⟩,
    ⟨(some 23), .load false 1 (.t 22), none⟩,
    ⟨(some 24), .call (.c (.fn F.laws_eqTyS [] [])) [(.t 21), (.t 23)], none⟩,
    ⟨(some 25), .not (.t 24), none⟩]) laws_eqTy_b6) laws_eqTy_b5)
def laws_eqTy_b9 : HCode :=
  (.seq (.reg [⟨(some 4), .mov (.c (.bool false)), none⟩]) .ret)
def laws_eqTy_b8 : HCode :=
  (.cond (.t 19) laws_eqTy_b9 .skip)
def laws_eqTy_b3 : HCode :=
  (.seq (.seq (.reg [⟨(some 15), .faddr 2 (.t 2), none⟩,
    ⟨(some 16), .load false 1 (.t 15), none⟩,
    ⟨(some 17), .faddr 2 (.t 3), none⟩,
    ⟨(some 18), .load false 1 (.t 17), none⟩,
    ⟨(some 19), .bin .neq (.t 16) (.t 18), none⟩]) laws_eqTy_b8) laws_eqTy_b4)
def laws_eqTy_b11 : HCode :=
  (.seq (.reg [⟨(some 4), .mov (.c (.bool false)), none⟩]) .ret)
def laws_eqTy_b10 : HCode :=
  (.cond (.t 14) laws_eqTy_b11 .skip)
def laws_eqTy_b2 : HCode :=
  (.seq (.seq (.reg [⟨(some 10), .faddr 1 (.t 2), none⟩,
    ⟨(some 11), .load false 1 (.t 10), none⟩,
    ⟨(some 12), .faddr 1 (.t 3), none⟩,
    ⟨(some 13), .load false 1 (.t 12), none⟩,
    ⟨(some 14), .bin .neq (.t 11) (.t 13), none⟩]) laws_eqTy_b10) laws_eqTy_b3)
def laws_eqTy_b13 : HCode :=
  (.seq (.reg [⟨(some 4), .mov (.c (.bool false)), none⟩]) .ret)
def laws_eqTy_b12 : HCode :=
  (.cond (.t 9) laws_eqTy_b13 .skip)
def laws_eqTy_b1 : HCode :=
  (.seq (.seq (.reg [⟨(some 5), .faddr 0 (.t 2), none⟩,
    ⟨(some 6), .load false 1 (.t 5), none⟩,
    ⟨(some 7), .faddr 0 (.t 3), none⟩,
    ⟨(some 8), .load false 1 (.t 7), none⟩,
    ⟨(some 9), .bin .neq (.t 6) (.t 8), none⟩]) laws_eqTy_b12) laws_eqTy_b2)
def laws_eqTy_b0 : HCode :=
  (.seq (.reg [⟨(some 2), .box (.t 0), none⟩,
    ⟨(some 3), .box (.t 1), none⟩,
    ⟨(some 4), .mov (.c (.bool false)), none⟩]) laws_eqTy_b1)
def laws_eqTy : HFunc :=
  { np := 2, ntmps := 26, results := [(4, none)], body := laws_eqTy_b0 }
def laws_eqTyS_b3 : HCode :=
  (.seq (.reg [⟨(some 4), .mov (.c (.bool true)), none⟩]) .ret)
def laws_eqTyS_b7 : HCode :=
  (.reg [⟨(some 15), .mov (.t 5), none⟩,
    ⟨(some 16), .bin .add (.t 15) (.c (.int .i64 1)), none⟩,
    ⟨(some 5), .mov (.t 16), none⟩])
def laws_eqTyS_b9 : HCode :=
  (.seq (.reg [⟨(some 4), .mov (.c (.bool false)), none⟩]) .ret)
def laws_eqTyS_b8 : HCode :=
  (.cond (.t 26) laws_eqTyS_b9 .skip)
def laws_eqTyS_b6 : HCode :=
  (.seq (.block 1 (.seq (.dreg (.q ⟨(some 17), .mov (.t 0), none⟩ (.q ⟨(some 18), .mov (.t 5), none⟩ (.q ⟨(some 19), .iaddr 4 (.t 17) (.t 18), none⟩ (.q ⟨(some 20), .load true 4 (.t 19), none⟩ (.q ⟨(some 21), .mov (.t 1), none⟩ (.q ⟨(some 22), .mov (.t 5), none⟩ (.q ⟨(some 23), .iaddr 4 (.t 21) (.t 22), none⟩ (.q ⟨(some 24), .load true 4 (.t 23), none⟩ (.l ⟨(some 25), .call (.c (.fn F.laws_eqTy [] [])) [(.t 20), (.t 24)], none⟩ [] (.q ⟨(some 26), .not (.t 25), none⟩ .done) .none)))))))))) laws_eqTyS_b8)) laws_eqTyS_b7)
def laws_eqTyS_b10 : HCode :=
  (.cond (.t 14) .skip (.exit 0))
def laws_eqTyS_l5 : HCode :=
  (.seq (.seq (.reg [⟨(some 11), .mov (.t 5), none⟩,
    ⟨(some 12), .mov (.t 0), none⟩,
    ⟨(some 13), .len (.t 12), none⟩,
    ⟨(some 14), .bin .lss (.t 11) (.t 13), none⟩]) laws_eqTyS_b10) laws_eqTyS_b6)
def laws_eqTyS_b4 : HCode :=
  (.block 0 (.loop laws_eqTyS_l5))
def laws_eqTyS_b2 : HCode :=
  (.seq (.seq (.reg [⟨(some 5), .mov (.c (.int .i64 0)), none⟩]) laws_eqTyS_b4) laws_eqTyS_b3)
def laws_eqTyS_b12 : HCode :=
  (.seq (.reg [⟨(some 4), .mov (.c (.bool false)), none⟩]) .ret)
def laws_eqTyS_b11 : HCode :=
  (.cond (.t 10) laws_eqTyS_b12 .skip)
def laws_eqTyS_b1 : HCode :=
  (.seq (.seq (.reg [⟨(some 6), .mov (.t 0), none⟩,
    ⟨(some 7), .len (.t 6), none⟩,
    ⟨(some 8), .mov (.t 1), none⟩,
    ⟨(some 9), .len (.t 8), none⟩,
    ⟨(some 10), .bin .neq (.t 7) (.t 9), none⟩]) laws_eqTyS_b11) laws_eqTyS_b2)
def laws_eqTyS_b0 : HCode :=
  (.seq (.reg [⟨(some 4), .mov (.c (.bool false)), none⟩]) laws_eqTyS_b1)
def laws_eqTyS : HFunc :=
  { np := 2, ntmps := 27, results := [(4, none)], body := laws_eqTyS_b0 }
def laws_szTy_b5 : HCode :=
  (.seq (.reg [⟨(some 18), .mov (.t 1), none⟩,
    ⟨(some 4), .mov (.t 18), none⟩]) .ret)
def laws_szTy_b7 : HCode :=
  (.seq (.reg [⟨(some 4), .mov (.c (.int .i64 (-1))), none⟩]) .ret)
def laws_szTy_b6 : HCode :=
  (.cond (.t 17) laws_szTy_b7 .skip)
def laws_szTy_b4 : HCode :=
  (.seq (.seq (.reg [⟨(some 16), .mov (.t 1), none⟩,
    ⟨(some 17), .bin .lss (.t 16) (.c (.int .i64 0)), none⟩]) laws_szTy_b6) laws_szTy_b5)
def laws_szTy_b3 : HCode :=
  (.seq (.reg [⟨(some 12), .faddr 3 (.t 2), none⟩,
    ⟨(some 13), .load false 1 (.t 12), none⟩,
    ⟨(some 14), .mov (.t 1), none⟩,
    ⟨(some 15), .call (.c (.fn F.laws_szTyS [] [])) [(.t 13), (.t 14)], none⟩,
    ⟨(some 1), .mov (.t 15), none⟩]) laws_szTy_b4)
def laws_szTy_b9 : HCode :=
  (.seq (.reg [⟨(some 4), .mov (.c (.int .i64 (-1))), none⟩]) .ret)
def laws_szTy_b8 : HCode :=
  (.cond (.t 11) laws_szTy_b9 .skip)
def laws_szTy_b2 : HCode :=
  (.seq (.seq (.reg [⟨(some 10), .mov (.t 1), none⟩,
    ⟨(some 11), .bin .lss (.t 10) (.c (.int .i64 0)), none⟩]) laws_szTy_b8) laws_szTy_b3)
def laws_szTy_b1 : HCode :=
  (.seq (.reg [⟨(some 5), .mov (.t 1), none⟩,
    ⟨(some 6), .faddr 1 (.t 2), none⟩,
    ⟨(some 7), .load false 1 (.t 6), none⟩,
    ⟨(some 8), .slen (.t 7), none⟩,
    ⟨(some 9), .bin .sub (.t 5) (.t 8), none⟩,
    ⟨(some 1), .mov (.t 9), none⟩]) laws_szTy_b2)
def laws_szTy_b0 : HCode :=
  (.seq (.reg [⟨(some 2), .box (.t 0), none⟩,
    ⟨(some 4), .mov (.c (.int .i64 0)), none⟩]) laws_szTy_b1)
def laws_szTy : HFunc :=
  { np := 2, ntmps := 19, results := [(4, none)], body := laws_szTy_b0 }
def laws_szTyS_b4 : HCode :=
  (.seq (.reg [⟨(some 26), .mov (.t 1), none⟩,
    ⟨(some 4), .mov (.t 26), none⟩]) .ret)
def laws_szTyS_b8 : HCode :=
  (.reg [⟨(some 16), .mov (.t 5), none⟩,
    ⟨(some 17), .bin .add (.t 16) (.c (.int .i64 1)), none⟩,
    ⟨(some 5), .mov (.t 17), none⟩])
def laws_szTyS_b11 : HCode :=
  (.seq (.reg [⟨(some 4), .mov (.c (.int .i64 (-1))), none⟩]) .ret)
def laws_szTyS_b10 : HCode :=
  (.cond (.t 25) laws_szTyS_b11 .skip)
def laws_szTyS_b9 : HCode :=
  (.seq (.reg [⟨(some 24), .mov (.t 1), none⟩,
    ⟨(some 25), .bin .lss (.t 24) (.c (.int .i64 0)), none⟩]) laws_szTyS_b10)
def laws_szTyS_b7 : HCode :=
  (.seq (.block 1 (.seq (.reg [⟨(some 18), .mov (.t 0), none⟩,
    ⟨(some 19), .mov (.t 5), none⟩,
    ⟨(some 20), .iaddr 4 (.t 18) (.t 19), none⟩,
    ⟨(some 21), .load true 4 (.t 20), none⟩,
    ⟨(some 22), .mov (.t 1), none⟩,
    ⟨(some 23), .call (.c (.fn F.laws_szTy [] [])) [(.t 21), (.t 22)], none⟩,
    ⟨(some 1), .mov (.t 23), none⟩]) laws_szTyS_b9)) laws_szTyS_b8)
def laws_szTyS_b12 : HCode :=
  (.cond (.t 15) .skip (.exit 0))
def laws_szTyS_l6 : HCode :=
  (.seq (.seq (.reg [⟨(some 12), .mov (.t 5), none⟩,
    ⟨(some 13), .mov (.t 0), none⟩,
    ⟨(some 14), .len (.t 13), none⟩,
    ⟨(some 15), .bin .lss (.t 12) (.t 14), none⟩]) laws_szTyS_b12) laws_szTyS_b7)
def laws_szTyS_b5 : HCode :=
  (.block 0 (.loop laws_szTyS_l6))
def laws_szTyS_b3 : HCode :=
  (.seq (.seq (.reg [⟨(some 5), .mov (.c (.int .i64 0)), none⟩]) laws_szTyS_b5) laws_szTyS_b4)
def laws_szTyS_b14 : HCode :=
  (.seq (.reg [⟨(some 4), .mov (.c (.int .i64 (-1))), none⟩]) .ret)
def laws_szTyS_b13 : HCode :=
  (.cond (.t 11) laws_szTyS_b14 .skip)
def laws_szTyS_b2 : HCode :=
  (.seq (.seq (.reg [⟨(some 10), .mov (.t 1), none⟩,
    ⟨(some 11), .bin .lss (.t 10) (.c (.int .i64 0)), none⟩]) laws_szTyS_b13) laws_szTyS_b3)
def laws_szTyS_b1 : HCode :=
  (.seq (.reg [⟨(some 6), .mov (.t 1), none⟩,
    ⟨(some 7), .mov (.t 0), none⟩,
    ⟨(some 8), .len (.t 7), none⟩,
    ⟨(some 9), .bin .sub (.t 6) (.t 8), none⟩,
    ⟨(some 1), .mov (.t 9), none⟩]) laws_szTyS_b2)
def laws_szTyS_b0 : HCode :=
  (.seq (.reg [⟨(some 4), .mov (.c (.int .i64 0)), none⟩]) laws_szTyS_b1)
def laws_szTyS : HFunc :=
  { np := 2, ntmps := 27, results := [(4, none)], body := laws_szTyS_b0 }
def spec_SameTy_b3 : HCode :=
  (.seq (.reg [⟨(some 4), .mov (.c (.bool true)), none⟩]) .ret)
def spec_SameTy_b7 : HCode :=
  (.reg [⟨(some 39), .mov (.t 5), none⟩,
    ⟨(some 40), .bin .add (.t 39) (.c (.int .i64 1)), none⟩,
    ⟨(some 5), .mov (.t 40), none⟩])
def spec_SameTy_b9 : HCode :=
  (.seq (.reg [⟨(some 4), .mov (.c (.bool false)), none⟩]) .ret)
def spec_SameTy_b8 : HCode :=
  (.cond (.t 52) spec_SameTy_b9 .skip)
def spec_SameTy_b6 : HCode :=
  (.seq (.block 1 (.seq (.dreg (.q ⟨(some 41), .faddr 3 (.t 2), none⟩ (.q ⟨(some 42), .load false 1 (.t 41), none⟩ (.q ⟨(some 43), .mov (.t 5), none⟩ (.q ⟨(some 44), .iaddr 4 (.t 42) (.t 43), none⟩ (.q ⟨(some 45), .load true 4 (.t 44), none⟩ (.q ⟨(some 46), .faddr 3 (.t 3), none⟩ (.q ⟨(some 47), .load false 1 (.t 46), none⟩ (.q ⟨(some 48), .mov (.t 5), none⟩ (.q ⟨(some 49), .iaddr 4 (.t 47) (.t 48), none⟩ (.q ⟨(some 50), .load true 4 (.t 49), none⟩ (.l ⟨(some 51), .call (.c (.fn F.spec_SameTy [] [])) [(.t 45), (.t 50)], none⟩ [] (.q ⟨(some 52), .not (.t 51), none⟩ .done) .none)))))))))))) spec_SameTy_b8)) spec_SameTy_b7)
def spec_SameTy_b10 : HCode :=
  (.cond (.t 38) .skip (.exit 0))
def spec_SameTy_l5 : HCode :=
  (.seq (.seq (.reg [⟨(some 34), .mov (.t 5), none⟩,
    ⟨(some 35), .faddr 3 (.t 2), none⟩,
    ⟨(some 36), .load false 1 (.t 35), none⟩,
    ⟨(some 37), .len (.t 36), none⟩,
    ⟨(some 38), .bin .lss (.t 34) (.t 37), none⟩]) spec_SameTy_b10) spec_SameTy_b6)
def spec_SameTy_b4 : HCode :=
  (.block 0 (.loop spec_SameTy_l5))
def spec_SameTy_b2 : HCode :=
  (.seq (.seq (.reg [⟨(some 5), .mov (.c (.int .i64 0)), none⟩]) spec_SameTy_b4) spec_SameTy_b3)
def spec_SameTy_b12 : HCode :=
  (.seq (.reg [⟨(some 4), .mov (.c (.bool false)), none⟩]) .ret)
def spec_SameTy_b11 : HCode :=
  (.cond (.t 33) spec_SameTy_b12 .skip)
def spec_SameTy_b1 : HCode :=
  (.seq (.seq (.reg [⟨(some 6), .faddr 0 (.t 2), none⟩,
    ⟨(some 7), .load false 1 (.t 6), none⟩,
    ⟨(some 8), .faddr 0 (.t 3), none⟩,
    ⟨(some 9), .load false 1 (.t 8), none⟩,
    ⟨(some 10), .bin .neq (.t 7) (.t 9), none⟩,
    ⟨(some 11), .mov (.t 10), none⟩,
    ⟨(some 12), .faddr 1 (.t 2), (some (11, false))⟩,
    ⟨(some 13), .load false 1 (.t 12), (some (11, false))⟩,
    ⟨(some 14), .faddr 1 (.t 3), (some (11, false))⟩,
    ⟨(some 15), .load false 1 (.t 14), (some (11, false))⟩,
    ⟨(some 16), .bin .neq (.t 13) (.t 15), (some (11, false))⟩,
    ⟨(some 17), .pick (.t 11) (.c (.bool true)) (.t 16), none⟩,
    ⟨(some 18), .mov (.t 17), none⟩,
    ⟨(some 19), .faddr 2 (.t 2), (some (18, false))⟩,
    ⟨(some 20), .load false 1 (.t 19), (some (18, false))⟩,
    ⟨(some 21), .faddr 2 (.t 3), (some (18, false))⟩,
    ⟨(some 22), .load false 1 (.t 21), (some (18, false))⟩,
    ⟨(some 23), .bin .neq (.t 20) (.t 22), (some (18, false))⟩,
    ⟨(some 24), .pick (.t 18) (.c (.bool true)) (.t 23), none⟩,
    ⟨(some 25), .mov (.t 24), none⟩,
    ⟨(some 26), .faddr 3 (.t 2), (some (25, false))⟩,
    ⟨(some 27), .load false 1 (.t 26), (some (25, false))⟩,
    ⟨(some 28), .len (.t 27), (some (25, false))⟩,
    ⟨(some 29), .faddr 3 (.t 3), (some (25, false))⟩,
    ⟨(some 30), .load false 1 (.t 29), (some (25, false))⟩,
    ⟨(some 31), .len (.t 30), (some (25, false))⟩,
    ⟨(some 32), .bin .neq (.t 28) (.t 31), (some (25, false))⟩,
    ⟨(some 33), .pick (.t 25) (.c (.bool true)) (.t 32), none⟩]) spec_SameTy_b11) spec_SameTy_b2)
def spec_SameTy_b0 : HCode :=
  (.seq (.reg [⟨(some 2), .box (.t 0), none⟩,
    ⟨(some 3), .box (.t 1), none⟩,
    ⟨(some 4), .mov (.c (.bool false)), none⟩]) spec_SameTy_b1)
def spec_SameTy : HFunc :=
  { np := 2, ntmps := 53, results := [(4, none)], body := spec_SameTy_b0 }
def laws_toTy_b6 : HCode :=
  (.seq (.reg [⟨(some 17), .load true 4 (.t 3), none⟩,
    ⟨none, .store 4 (.t 2) (.t 17), none⟩]) .ret)
def laws_toTy_b5 : HCode :=
  (.seq (.reg [⟨(some 13), .faddr 3 (.t 1), none⟩,
    ⟨(some 14), .load false 1 (.t 13), none⟩,
    ⟨(some 15), .call (.c (.fn F.laws_toTyS [] [])) [(.t 14)], none⟩,
    ⟨(some 16), .faddr 3 (.t 3), none⟩,
    ⟨none, .store 1 (.t 16) (.t 15), none⟩]) laws_toTy_b6)
def laws_toTy_b4 : HCode :=
  (.seq (.reg [⟨(some 10), .faddr 2 (.t 1), none⟩,
    ⟨(some 11), .load false 1 (.t 10), none⟩,
    ⟨(some 12), .faddr 2 (.t 3), none⟩,
    ⟨none, .store 1 (.t 12) (.t 11), none⟩]) laws_toTy_b5)
def laws_toTy_b3 : HCode :=
  (.seq (.reg [⟨(some 7), .faddr 1 (.t 1), none⟩,
    ⟨(some 8), .load false 1 (.t 7), none⟩,
    ⟨(some 9), .faddr 1 (.t 3), none⟩,
    ⟨none, .store 1 (.t 9) (.t 8), none⟩]) laws_toTy_b4)
def laws_toTy_b2 : HCode :=
  (.seq (.reg [⟨(some 4), .faddr 0 (.t 1), none⟩,
    ⟨(some 5), .load false 1 (.t 4), none⟩,
    ⟨(some 6), .faddr 0 (.t 3), none⟩,
    ⟨none, .store 1 (.t 6) (.t 5), none⟩]) laws_toTy_b3)
def laws_toTy_b1 : HCode :=
  (.seq (.reg [⟨(some 3), .alloc (.agg [(.int .i64 0), (.str ⟨⟨[]⟩⟩), (.int .i64 0), .nils]), none⟩]) laws_toTy_b2)
def laws_toTy_b0 : HCode :=
  (.seq (.reg [⟨(some 1), .box (.t 0), none⟩,
    ⟨(some 2), .alloc (.agg [(.int .i64 0), (.str ⟨⟨[]⟩⟩), (.int .i64 0), .nils]), none⟩]) laws_toTy_b1)
def laws_toTy : HFunc :=
  { np := 1, ntmps := 18, results := [(2, some (true, 4))], body := laws_toTy_b0 }
def laws_toTyS_b3 : HCode :=
  (.seq (.reg [⟨(some 22), .mov (.t 3), none⟩,
    ⟨(some 2), .mov (.t 22), none⟩]) .ret)
def laws_toTyS_b7 : HCode :=
  (.reg [⟨(some 12), .mov (.t 4), none⟩,
    ⟨(some 13), .bin .add (.t 12) (.c (.int .i64 1)), none⟩,
    ⟨(some 4), .mov (.t 13), none⟩])
def laws_toTyS_b6 : HCode :=
  (.seq (.block 1 (.reg [⟨(some 14), .mov (.t 3), none⟩,
    ⟨(some 15), .mov (.t 4), none⟩,
    ⟨(some 16), .mov (.t 0), none⟩,
    ⟨(some 17), .mov (.t 4), none⟩,
    ⟨(some 18), .iaddr 4 (.t 16) (.t 17), none⟩,
    ⟨(some 19), .load true 4 (.t 18), none⟩,
    ⟨(some 20), .call (.c (.fn F.laws_toTy [] [])) [(.t 19)], none⟩,
    ⟨(some 21), .iaddr 4 (.t 14) (.t 15), none⟩,
    ⟨none, .store 4 (.t 21) (.t 20), none⟩])) laws_toTyS_b7)
def laws_toTyS_b8 : HCode :=
  (.cond (.t 11) .skip (.exit 0))
def laws_toTyS_l5 : HCode :=
  (.seq (.seq (.reg [⟨(some 8), .mov (.t 4), none⟩,
    ⟨(some 9), .mov (.t 0), none⟩,
    ⟨(some 10), .len (.t 9), none⟩,
    ⟨(some 11), .bin .lss (.t 8) (.t 10), none⟩]) laws_toTyS_b8) laws_toTyS_b6)
def laws_toTyS_b4 : HCode :=
  (.block 0 (.loop laws_toTyS_l5))
def laws_toTyS_b2 : HCode :=
  (.seq (.seq (.reg [⟨(some 4), .mov (.c (.int .i64 0)), none⟩]) laws_toTyS_b4) laws_toTyS_b3)
def laws_toTyS_b1 : HCode :=
  (.seq (.reg [⟨(some 5), .mov (.t 0), none⟩,
    ⟨(some 6), .len (.t 5), none⟩,
    ⟨(some 7), .mkslice 4 56 (.agg [(.int .i64 0), (.str ⟨⟨[]⟩⟩), (.int .i64 0), .nils]) (.t 6) (.t 6), none⟩,
    ⟨(some 3), .mov (.t 7), none⟩]) laws_toTyS_b2)
def laws_toTyS_b0 : HCode :=
  (.seq (.reg [⟨(some 2), .mov (.c .nils), none⟩]) laws_toTyS_b1)
def laws_toTyS : HFunc :=
  { np := 1, ntmps := 23, results := [(2, none)], body := laws_toTyS_b0 }
def laws_FnExactSameTy_b13 : HCode :=
  (.seq (.reg [⟨(some 4), .mov (.c (.bool true)), none⟩]) .ret)
def laws_FnExactSameTy_b15 : HCode :=
  (.seq (.reg [⟨(some 4), .mov (.c (.bool false)), none⟩]) .ret)
def laws_FnExactSameTy_b14 : HCode :=
  (.cond (.t 44) laws_FnExactSameTy_b15 .skip)
def laws_FnExactSameTy_b12 : HCode :=
  (.seq (.seq (.dreg (.q ⟨(some 40), .load true 4 (.t 8), none⟩ (.q ⟨(some 41), .load true 4 (.t 3), none⟩ (.l ⟨(some 42), .call (.c (.fn F.laws_toTy [] [])) [(.t 41)], none⟩ [⟨(some 40), .load true 4 (.t 8), none⟩] (.l ⟨(some 43), .call (.c (.fn F.laws_eqTy [] [])) [(.t 40), (.t 42)], none⟩ [] (.q ⟨(some 44), .not (.t 43), none⟩ .done) .none) .none)))) laws_FnExactSameTy_b14) laws_FnExactSameTy_b13)
def laws_FnExactSameTy_b17 : HCode :=
  (.seq (.reg [⟨(some 4), .mov (.c (.bool false)), none⟩]) .ret)
def laws_FnExactSameTy_b16 : HCode :=
  (.cond (.t 39) laws_FnExactSameTy_b17 .skip)
def laws_FnExactSameTy_b11 : HCode :=
  (.seq (.seq (.dreg (.q ⟨(some 35), .load true 4 (.t 7), none⟩ (.q ⟨(some 36), .load true 4 (.t 2), none⟩ (.l ⟨(some 37), .call (.c (.fn F.laws_toTy [] [])) [(.t 36)], none⟩ [⟨(some 35), .load true 4 (.t 7), none⟩] (.l ⟨(some 38), .call (.c (.fn F.laws_eqTy [] [])) [(.t 35), (.t 37)], none⟩ [] (.q ⟨(some 39), .not (.t 38), none⟩ .done) .none) .none)))) laws_FnExactSameTy_b16) laws_FnExactSameTy_b12)
def laws_FnExactSameTy_b19 : HCode :=
  (.seq (.reg [⟨(some 4), .mov (.c (.bool false)), none⟩]) .ret)
def laws_FnExactSameTy_b18 : HCode :=
  (.cond (.t 34) laws_FnExactSameTy_b19 .skip)
def laws_FnExactSameTy_b10 : HCode :=
  (.seq (.seq (.reg [⟨(some 32), .mov (.t 9), none⟩,
    ⟨(some 33), .mov (.t 6), none⟩,
    ⟨(some 34), .bbin .neq (.t 32) (.t 33), none⟩]) laws_FnExactSameTy_b18) laws_FnExactSameTy_b11)
def laws_FnExactSameTy_b9 : HCode :=
  (.seq (.reg [⟨(some 29), .load true 4 (.t 7), none⟩,
    ⟨(some 30), .load true 4 (.t 8), none⟩,
    ⟨(some 31), .call (.c (.fn F.impl_SameTy [] [])) [(.t 29), (.t 30)], none⟩,
    ⟨(some 9), .mov (.t 31), none⟩]) laws_FnExactSameTy_b10)
def laws_FnExactSameTy_b8 : HCode :=
  (.seq (.reg [⟨(some 27), .load true 4 (.t 3), none⟩,
    ⟨(some 28), .call (.c (.fn F.laws_toTy [] [])) [(.t 27)], none⟩,
    ⟨(some 8), .alloc (.agg [(.int .i64 0), (.str ⟨⟨[]⟩⟩), (.int .i64 0), .nils]), none⟩,
    ⟨none, .store 4 (.t 8) (.t 28), none⟩]) laws_FnExactSameTy_b9)
def laws_FnExactSameTy_b7 : HCode :=
  (.seq (.reg [⟨(some 25), .load true 4 (.t 2), none⟩,
    ⟨(some 26), .call (.c (.fn F.laws_toTy [] [])) [(.t 25)], none⟩,
    ⟨(some 7), .alloc (.agg [(.int .i64 0), (.str ⟨⟨[]⟩⟩), (.int .i64 0), .nils]), none⟩,
    ⟨none, .store 4 (.t 7) (.t 26), none⟩]) laws_FnExactSameTy_b8)
def laws_FnExactSameTy_b6 : HCode :=
  (.seq (.dreg (.q ⟨(some 20), .load true 4 (.t 2), none⟩ (.q ⟨(some 22), .load true 4 (.t 3), none⟩ (.l ⟨(some 21), .call (.c (.fn F.laws_toTy [] [])) [(.t 20)], none⟩ [⟨(some 22), .load true 4 (.t 3), none⟩] (.l ⟨(some 23), .call (.c (.fn F.laws_toTy [] [])) [(.t 22)], none⟩ [] (.l ⟨(some 24), .call (.c (.fn F.spec_SameTy [] [])) [(.t 21), (.t 23)], none⟩ [] (.q ⟨(some 6), .mov (.t 24), none⟩ .done) .none) .none) .none)))) laws_FnExactSameTy_b7)
def laws_FnExactSameTy_b21 : HCode :=
  (.seq (.reg [⟨(some 4), .mov (.c (.bool true)), none⟩]) .ret)
def laws_FnExactSameTy_b20 : HCode :=
  (.cond (.t 19) laws_FnExactSameTy_b21 .skip)
def laws_FnExactSameTy_b5 : HCode :=
  (.seq (.seq (.reg [⟨(some 18), .mov (.t 5), none⟩,
    ⟨(some 19), .bin .lss (.t 18) (.c (.int .i64 0)), none⟩]) laws_FnExactSameTy_b20) laws_FnExactSameTy_b6)
def laws_FnExactSameTy_b4 : HCode :=
  (.seq (.reg [⟨(some 15), .load true 4 (.t 3), none⟩,
    ⟨(some 16), .mov (.t 5), none⟩,
    ⟨(some 17), .call (.c (.fn F.laws_szTy [] [])) [(.t 15), (.t 16)], none⟩,
    ⟨(some 5), .mov (.t 17), none⟩]) laws_FnExactSameTy_b5)
def laws_FnExactSameTy_b23 : HCode :=
  (.seq (.reg [⟨(some 4), .mov (.c (.bool true)), none⟩]) .ret)
def laws_FnExactSameTy_b22 : HCode :=
  (.cond (.t 14) laws_FnExactSameTy_b23 .skip)
def laws_FnExactSameTy_b3 : HCode :=
  (.seq (.seq (.reg [⟨(some 13), .mov (.t 5), none⟩,
    ⟨(some 14), .bin .lss (.t 13) (.c (.int .i64 0)), none⟩]) laws_FnExactSameTy_b22) laws_FnExactSameTy_b4)
def laws_FnExactSameTy_b2 : HCode :=
  (.seq (.reg [⟨(some 10), .load true 4 (.t 2), none⟩,
    ⟨(some 11), .mov (.t 5), none⟩,
    ⟨(some 12), .call (.c (.fn F.laws_szTy [] [])) [(.t 10), (.t 11)], none⟩,
    ⟨(some 5), .mov (.t 12), none⟩]) laws_FnExactSameTy_b3)
def laws_FnExactSameTy_b1 : HCode :=
  (.seq (.reg [⟨(some 5), .mov (.c (.int .i64 1048576)), none⟩]) laws_FnExactSameTy_b2)
def laws_FnExactSameTy_b0 : HCode :=
  (.seq (.reg [⟨(some 2), .box (.t 0), none⟩,
    ⟨(some 3), .box (.t 1), none⟩,
    ⟨(some 4), .mov (.c (.bool false)), none⟩]) laws_FnExactSameTy_b1)
def laws_FnExactSameTy : HFunc :=
  { np := 2, ntmps := 45, results := [(4, none)], body := laws_FnExactSameTy_b0 }
end H
namespace S
noncomputable abbrev P : Program := Go.Proofs.Try.prog
theorem impl_SameTy : stripF P F.impl_SameTy = some H.impl_SameTy := by kernel_rfl
theorem slices_EqualFunc_impl_Ty : stripF P F.slices_EqualFunc_impl_Ty = some H.slices_EqualFunc_impl_Ty := by kernel_rfl
theorem laws_eqTy : stripF P F.laws_eqTy = some H.laws_eqTy := by kernel_rfl
theorem laws_eqTyS : stripF P F.laws_eqTyS = some H.laws_eqTyS := by kernel_rfl
theorem laws_szTy : stripF P F.laws_szTy = some H.laws_szTy := by kernel_rfl
theorem laws_szTyS : stripF P F.laws_szTyS = some H.laws_szTyS := by kernel_rfl
theorem spec_SameTy : stripF P F.spec_SameTy = some H.spec_SameTy := by kernel_rfl
theorem laws_toTy : stripF P F.laws_toTy = some H.laws_toTy := by kernel_rfl
theorem laws_toTyS : stripF P F.laws_toTyS = some H.laws_toTyS := by kernel_rfl
theorem laws_FnExactSameTy : stripF P F.laws_FnExactSameTy = some H.laws_FnExactSameTy := by kernel_rfl
end S
end W
