import Derived.Test.YtnhdobhfebiggaaHLVc
import Derived.KernelRfl
import Derived.Test.YtnhdobhfebiggaaProg
namespace W
open Go HL
set_option maxRecDepth 1000000
namespace F
abbrev main_main : Nat := 0
abbrev gosem_cut : Nat := 1
abbrev gosem_cut_init : Nat := 2
abbrev laws_FnExactSameTy : Nat := 3
abbrev laws_FnExactBlocks : Nat := 4
abbrev laws_FnExactVarsOf : Nat := 5
abbrev laws_FnExactLex : Nat := 6
abbrev laws_FnExactSameExp : Nat := 7
abbrev laws_FnExactIsBare : Nat := 8
abbrev laws_FnLex : Nat := 9
abbrev laws_FnExactDataOf : Nat := 10
abbrev laws_FnExactArityOf : Nat := 11
abbrev laws_FnExactSameProg : Nat := 12
abbrev laws_szTy : Nat := 13
abbrev spec_SameTy : Nat := 14
abbrev laws_toTy : Nat := 15
abbrev impl_SameTy : Nat := 16
abbrev laws_eqTy : Nat := 17
abbrev laws_szTokS : Nat := 18
abbrev spec_Blocks : Nat := 19
abbrev laws_toTokS : Nat := 20
abbrev impl_Blocks : Nat := 21
abbrev laws_eqTokS : Nat := 22
abbrev spec_VarsOf : Nat := 23
abbrev impl_VarsOf : Nat := 24
abbrev laws_eqIntS : Nat := 25
abbrev laws_markTy : Nat := 26
abbrev laws_markIntS : Nat := 27
abbrev laws_heldIntS : Nat := 28
abbrev spec_Lex : Nat := 29
abbrev impl_Lex : Nat := 30
abbrev laws_markTokS : Nat := 31
abbrev laws_heldTokS : Nat := 32
abbrev laws_szExp : Nat := 33
abbrev spec_SameExp : Nat := 34
abbrev laws_toExp : Nat := 35
abbrev impl_SameExp : Nat := 36
abbrev laws_eqExp : Nat := 37
abbrev spec_IsBare : Nat := 38
abbrev impl_IsBare : Nat := 39
abbrev laws_big : Nat := 40
abbrev spec_DrawLex : Nat := 41
abbrev spec_DrawNameOk : Nat := 42
abbrev spec_DrawGreatOk : Nat := 43
abbrev laws_sameToks : Nat := 44
abbrev impl_NameOk : Nat := 45
abbrev spec_NameOk : Nat := 46
abbrev impl_GreatOk : Nat := 47
abbrev spec_GreatOk : Nat := 48
abbrev impl_TokText : Nat := 49
abbrev laws_szProg : Nat := 50
abbrev spec_DataOf : Nat := 51
abbrev laws_toProg : Nat := 52
abbrev impl_DataOf : Nat := 53
abbrev laws_eqProg : Nat := 54
abbrev spec_ArityOf : Nat := 55
abbrev impl_ArityOf : Nat := 56
abbrev spec_SameProg : Nat := 57
abbrev impl_SameProg : Nat := 58
abbrev laws_szTyS : Nat := 59
abbrev laws_toTyS : Nat := 60
abbrev slices_EqualFunc_impl_Ty : Nat := 61
abbrev laws_eqTyS : Nat := 62
abbrev laws_szTok : Nat := 63
abbrev spec_l2Is : Nat := 64
abbrev laws_toTok : Nat := 65
abbrev slices_DeleteFunc_impl_Tok : Nat := 66
abbrev slices_Clone_impl_Tok : Nat := 67
abbrev impl_Blocks_1 : Nat := 68
abbrev impl_isMark : Nat := 69
abbrev laws_eqTok : Nat := 70
abbrev spec_l9Vars : Nat := 71
abbrev impl_varsIn : Nat := 72
abbrev laws_markTyS : Nat := 73
abbrev spec_l1Skip : Nat := 74
abbrev spec_l1Next : Nat := 75
abbrev spec_l1Place : Nat := 76
abbrev impl_passed : Nat := 77
abbrev impl_nextTok : Nat := 78
abbrev laws_markText : Nat := 79
abbrev laws_szExpS : Nat := 80
abbrev laws_szDecS : Nat := 81
abbrev laws_szAltS : Nat := 82
abbrev spec_l3SameDecs : Nat := 83
abbrev spec_l3SameTexts : Nat := 84
abbrev laws_toExpS : Nat := 85
abbrev laws_toDecS : Nat := 86
abbrev laws_toAltS : Nat := 87
abbrev slices_EqualFunc_impl_Exp : Nat := 88
abbrev slices_EqualFunc_impl_Dec : Nat := 89
abbrev impl_sameDec : Nat := 90
abbrev slices_EqualFunc_impl_Alt : Nat := 91
abbrev impl_sameAlt : Nat := 92
abbrev laws_eqExpS : Nat := 93
abbrev laws_eqDecS : Nat := 94
abbrev laws_eqAltS : Nat := 95
abbrev spec_l11Is : Nat := 96
abbrev impl_counted : Nat := 97
abbrev impl_IsBare_1 : Nat := 98
abbrev slices_ContainsFunc_impl_Dec : Nat := 99
abbrev impl_IsBare_1_1 : Nat := 100
abbrev spec_l1New : Nat := 101
abbrev spec_l1Text : Nat := 102
abbrev spec_l1Below : Nat := 103
abbrev spec_l1Str : Nat := 104
abbrev spec_l1Prog : Nat := 105
abbrev spec_l1Once : Nat := 106
abbrev impl_wordLike : Nat := 107
abbrev slices_Contains_string : Nat := 108
abbrev impl_words : Nat := 109
abbrev spec_l1Letters : Nat := 110
abbrev spec_l1Small : Nat := 111
abbrev spec_l1IsWord : Nat := 112
abbrev spec_l1Large : Nat := 113
abbrev strings_Join : Nat := 114
abbrev laws_szDataS : Nat := 115
abbrev laws_toDataS : Nat := 116
abbrev impl_isBool : Nat := 117
abbrev impl_conOf : Nat := 118
abbrev laws_eqDataS : Nat := 119
abbrev spec_l3SameData : Nat := 120
abbrev slices_EqualFunc_impl_Data : Nat := 121
abbrev impl_sameData : Nat := 122
abbrev slices_IndexFunc_impl_Tok : Nat := 123
abbrev spec_l9Has : Nat := 124
abbrev slices_Contains_int : Nat := 125
abbrev spec_l1Digit : Nat := 126
abbrev spec_l1NumOk : Nat := 127
abbrev spec_l1Letter : Nat := 128
abbrev spec_l1Kind : Nat := 129
abbrev spec_l1Has : Nat := 130
abbrev strings_HasPrefix : Nat := 131
abbrev impl_runLen : Nat := 132
abbrev impl_passed_1 : Nat := 133
abbrev impl_isLetter : Nat := 134
abbrev impl_nextTok_1 : Nat := 135
abbrev impl_isDigit : Nat := 136
abbrev impl_numberLike : Nat := 137
abbrev slices_Contains_byte : Nat := 138
abbrev laws_szDec : Nat := 139
abbrev laws_szAlt : Nat := 140
abbrev laws_toDec : Nat := 141
abbrev laws_toAlt : Nat := 142
abbrev slices_Equal_string : Nat := 143
abbrev laws_eqDec : Nat := 144
abbrev laws_eqAlt : Nat := 145
abbrev impl_mapped : Nat := 146
abbrev impl_counted_1 : Nat := 147
abbrev slices_IndexFunc_impl_Dec : Nat := 148
abbrev spec_l1Word : Nat := 149
abbrev spec_l1Byte : Nat := 150
abbrev impl_in : Nat := 151
abbrev slices_Index_string : Nat := 152
abbrev spec_l1In : Nat := 153
abbrev strings_Builder_Grow : Nat := 154
abbrev strings_Builder_WriteString : Nat := 155
abbrev strings_Builder_String : Nat := 156
abbrev laws_szData : Nat := 157
abbrev laws_toData : Nat := 158
abbrev laws_eqData : Nat := 159
abbrev slices_EqualFunc_impl_Con : Nat := 160
abbrev impl_sameCon : Nat := 161
abbrev slices_Index_int : Nat := 162
abbrev internal_stringslite_HasPrefix : Nat := 163
abbrev slices_Index_byte : Nat := 164
abbrev laws_szStringS : Nat := 165
abbrev laws_toStringS : Nat := 166
abbrev laws_eqStringS : Nat := 167
abbrev impl_mappedDecs : Nat := 168
abbrev slices_Clone_string : Nat := 169
abbrev strings_Builder_copyCheck : Nat := 170
abbrev strings_Builder_grow : Nat := 171
abbrev laws_szConS : Nat := 172
abbrev laws_toConS : Nat := 173
abbrev laws_eqConS : Nat := 174
abbrev internal_abi_NoEscape : Nat := 175
abbrev internal_bytealg_MakeNoZero : Nat := 176
abbrev laws_szCon : Nat := 177
abbrev laws_toCon : Nat := 178
abbrev laws_eqCon : Nat := 179
abbrev runtime_boundsError_Error : Nat := 180
abbrev runtime_boundsError_RuntimeError : Nat := 181
abbrev runtime_errorString_Error : Nat := 182
abbrev runtime_errorString_RuntimeError : Nat := 183
abbrev runtime_plainError_Error : Nat := 184
abbrev runtime_plainError_RuntimeError : Nat := 185
abbrev runtime_errorAddressString_Error : Nat := 186
abbrev runtime_errorAddressString_RuntimeError : Nat := 187
abbrev runtime_TypeAssertionError_Error : Nat := 188
abbrev runtime_TypeAssertionError_RuntimeError : Nat := 189
abbrev runtime_PanicNilError_Error : Nat := 190
abbrev runtime_PanicNilError_RuntimeError : Nat := 191
abbrev internal_abi_Type_Align : Nat := 192
abbrev internal_runtime_maps_unhashableTypeError_Error : Nat := 193
abbrev internal_runtime_maps_unhashableTypeError_RuntimeError : Nat := 194
abbrev strings_Builder_Reset : Nat := 195
abbrev internal_abi_Kind_String : Nat := 196
end F
namespace H
def impl_conOf_b2 : HCode :=
  (.seq (.reg [⟨(some 34), .build [(.str ⟨⟨[]⟩⟩), .nils] [], none⟩,
    ⟨none, .store 2 (.t 4) (.t 34), none⟩,
    ⟨(some 5), .mov (.c (.str ⟨⟨[]⟩⟩)), none⟩,
    ⟨(some 6), .mov (.c (.bool false)), none⟩]) .ret)
def impl_conOf_b7 : HCode :=
  (.reg [⟨(some 33), .bin .add (.t 14) (.c (.int .i64 1)), none⟩,
    ⟨(some 14), .mov (.t 33), none⟩])
def impl_conOf_b13 : HCode :=
  (.reg [⟨(some 32), .bin .add (.t 21) (.c (.int .i64 1)), none⟩,
    ⟨(some 21), .mov (.t 32), none⟩])
def impl_conOf_b16 : HCode :=
  (.seq (.dreg (.q ⟨(some 29), .load true 2 (.t 10), none⟩ (.q ⟨(some 30), .faddr 0 (.t 8), none⟩ (.q ⟨(some 31), .load false 1 (.t 30), none⟩ (.l ⟨none, .store 2 (.t 4) (.t 29), none⟩ [⟨(some 31), .load false 1 (.t 30), none⟩, ⟨(some 30), .faddr 0 (.t 8), none⟩] (.q ⟨(some 5), .mov (.t 31), none⟩ (.q ⟨(some 6), .mov (.c (.bool true)), none⟩ .done)) .none))))) .ret)
def impl_conOf_b15 : HCode :=
  (.cond (.t 28) impl_conOf_b16 .skip)
def impl_conOf_b14 : HCode :=
  (.seq (.reg [⟨(some 25), .faddr 0 (.t 10), none⟩,
    ⟨(some 26), .load false 1 (.t 25), none⟩,
    ⟨(some 27), .mov (.t 1), none⟩,
    ⟨(some 28), .bin .eql (.t 26) (.t 27), none⟩]) impl_conOf_b15)
def impl_conOf_b12 : HCode :=
  (.seq (.block 3 (.seq (.reg [⟨(some 23), .iaddr 2 (.t 19) (.t 21), none⟩,
    ⟨(some 24), .load true 2 (.t 23), none⟩,
    ⟨(some 10), .alloc (.agg [(.str ⟨⟨[]⟩⟩), .nils]), none⟩,
    ⟨none, .store 2 (.t 10) (.t 24), none⟩]) impl_conOf_b14)) impl_conOf_b13)
def impl_conOf_b11 : HCode :=
  (.seq (.cond (.t 22) .skip (.exit 2)) impl_conOf_b12)
def impl_conOf_l10 : HCode :=
  (.seq (.reg [⟨(some 22), .bin .lss (.t 21) (.t 20), none⟩]) impl_conOf_b11)
def impl_conOf_b9 : HCode :=
  (.block 2 (.loop impl_conOf_l10))
def impl_conOf_b8 : HCode :=
  (.seq (.reg [⟨(some 18), .faddr 1 (.t 8), none⟩,
    ⟨(some 19), .load false 1 (.t 18), none⟩,
    ⟨(some 20), .len (.t 19), none⟩,
    ⟨(some 21), .mov (.c (.int .i64 0)), none⟩]) impl_conOf_b9)
def impl_conOf_b6 : HCode :=
  (.seq (.block 1 (.seq (.reg [⟨(some 16), .iaddr 2 (.t 12) (.t 14), none⟩,
    ⟨(some 17), .load true 2 (.t 16), none⟩,
    ⟨(some 8), .alloc (.agg [(.str ⟨⟨[]⟩⟩), .nils]), none⟩,
    ⟨none, .store 2 (.t 8) (.t 17), none⟩]) impl_conOf_b8)) impl_conOf_b7)
def impl_conOf_b5 : HCode :=
  (.seq (.cond (.t 15) .skip (.exit 0)) impl_conOf_b6)
def impl_conOf_l4 : HCode :=
  (.seq (.reg [⟨(some 15), .bin .lss (.t 14) (.t 13), none⟩]) impl_conOf_b5)
def impl_conOf_b3 : HCode :=
  (.block 0 (.loop impl_conOf_l4))
def impl_conOf_b1 : HCode :=
  (.seq (.seq (.reg [⟨(some 11), .faddr 0 (.t 2), none⟩,
    ⟨(some 12), .load false 1 (.t 11), none⟩,
    ⟨(some 13), .len (.t 12), none⟩,
    ⟨(some 14), .mov (.c (.int .i64 0)), none⟩]) impl_conOf_b3) impl_conOf_b2)
def impl_conOf_b0 : HCode :=
  (.seq (.reg [⟨(some 2), .box (.t 0), none⟩,
    ⟨(some 4), .alloc (.agg [(.str ⟨⟨[]⟩⟩), .nils]), none⟩,
    ⟨(some 5), .mov (.c (.str ⟨⟨[]⟩⟩)), none⟩,
    ⟨(some 6), .mov (.c (.bool false)), none⟩]) impl_conOf_b1)
def impl_conOf : HFunc :=
  { np := 2, ntmps := 35, results := [(4, some (true, 2)), (5, none), (6, none)], body := impl_conOf_b0 }
def impl_isBool_b1 : HCode :=
  (.seq (.reg [⟨(some 3), .mov (.t 0), none⟩,
    ⟨(some 4), .bin .eql (.t 3) (.c (.str ⟨⟨[84, 114, 117, 101]⟩⟩)), none⟩,
    ⟨(some 5), .mov (.t 4), none⟩,
    ⟨(some 6), .mov (.t 0), (some (5, false))⟩,
    ⟨(some 7), .bin .eql (.t 6) (.c (.str ⟨⟨[70, 97, 108, 115, 101]⟩⟩)), (some (5, false))⟩,
    ⟨(some 8), .pick (.t 5) (.c (.bool true)) (.t 7), none⟩,
    ⟨(some 2), .mov (.t 8), none⟩]) .ret)
def impl_isBool_b0 : HCode :=
  (.seq (.reg [⟨(some 2), .mov (.c (.bool false)), none⟩]) impl_isBool_b1)
def impl_isBool : HFunc :=
  { np := 1, ntmps := 9, results := [(2, none)], body := impl_isBool_b0 }
def impl_ArityOf_b3 : HCode :=
  (.seq (.reg [⟨(some 21), .faddr 1 (.t 5), none⟩,
    ⟨(some 22), .load false 1 (.t 21), none⟩,
    ⟨(some 23), .len (.t 22), none⟩,
    ⟨(some 4), .mov (.t 23), none⟩]) .ret)
def impl_ArityOf_b5 : HCode :=
  (.seq (.reg [⟨(some 4), .mov (.c (.int .i64 0)), none⟩]) .ret)
def impl_ArityOf_b8 : HCode :=
  (.seq (.reg [⟨(some 4), .mov (.c (.int .i64 (-1))), none⟩]) .ret)
def impl_ArityOf_b7 : HCode :=
  (.cond (.t 18) impl_ArityOf_b8 .skip)
def impl_ArityOf_b6 : HCode :=
  (.seq (.reg [⟨(some 19), .mov (.t 7), none⟩,
    ⟨(some 20), .not (.t 19), none⟩,
    ⟨(some 18), .mov (.t 20), none⟩]) impl_ArityOf_b7)
def impl_ArityOf_b4 : HCode :=
  (.cond (.t 15) impl_ArityOf_b5 impl_ArityOf_b6)
def impl_ArityOf_b2 : HCode :=
  (.seq (.block 0 (.seq (.reg [⟨(some 16), .mov (.t 1), none⟩,
    ⟨(some 17), .call (.c (.fn F.impl_isBool [] [])) [(.t 16)], none⟩,
    ⟨(some 15), .mov (.t 17), none⟩]) impl_ArityOf_b4)) impl_ArityOf_b3)
def impl_ArityOf_b1 : HCode :=
  (.seq (.reg [⟨(some 9), .load true 2 (.t 2), none⟩,
    ⟨(some 10), .mov (.t 1), none⟩,
    ⟨(some 11), .call (.c (.fn F.impl_conOf [] [])) [(.t 9), (.t 10)], none⟩,
    ⟨(some 8), .mov (.t 11), none⟩,
    ⟨(some 12), .ext (.t 8) 0, none⟩,
    ⟨(some 13), .ext (.t 8) 1, none⟩,
    ⟨(some 14), .ext (.t 8) 2, none⟩,
    ⟨(some 5), .alloc (.agg [(.str ⟨⟨[]⟩⟩), .nils]), none⟩,
    ⟨none, .store 2 (.t 5) (.t 12), none⟩,
    ⟨(some 6), .mov (.t 13), none⟩,
    ⟨(some 7), .mov (.t 14), none⟩]) impl_ArityOf_b2)
def impl_ArityOf_b0 : HCode :=
  (.seq (.reg [⟨(some 2), .box (.t 0), none⟩,
    ⟨(some 4), .mov (.c (.int .i64 0)), none⟩]) impl_ArityOf_b1)
def impl_ArityOf : HFunc :=
  { np := 2, ntmps := 24, results := [(4, none)], body := impl_ArityOf_b0 }
def impl_DataOf_b3 : HCode :=
  (.seq (.reg [⟨(some 17), .mov (.t 6), none⟩,
    ⟨(some 4), .mov (.t 17), none⟩]) .ret)
def impl_DataOf_b2 : HCode :=
  (.seq (.reg [⟨(some 11), .load true 2 (.t 2), none⟩,
    ⟨(some 12), .mov (.t 1), none⟩,
    ⟨(some 13), .call (.c (.fn F.impl_conOf [] [])) [(.t 11), (.t 12)], none⟩,
    ⟨(some 10), .mov (.t 13), none⟩,
    ⟨(some 14), .ext (.t 10) 0, none⟩,
    ⟨(some 15), .ext (.t 10) 1, none⟩,
    ⟨(some 16), .ext (.t 10) 2, none⟩,
    ⟨(some 5), .alloc (.agg [(.str ⟨⟨[]⟩⟩), .nils]), none⟩,
    ⟨none, .store 2 (.t 5) (.t 14), none⟩,
    ⟨(some 6), .mov (.t 15), none⟩,
    ⟨(some 7), .mov (.t 16), none⟩]) impl_DataOf_b3)
def impl_DataOf_b5 : HCode :=
  (.seq (.reg [⟨(some 4), .mov (.c (.str ⟨⟨[66, 111, 111, 108]⟩⟩)), none⟩]) .ret)
def impl_DataOf_b4 : HCode :=
  (.cond (.t 9) impl_DataOf_b5 .skip)
def impl_DataOf_b1 : HCode :=
  (.seq (.seq (.reg [⟨(some 8), .mov (.t 1), none⟩,
    ⟨(some 9), .call (.c (.fn F.impl_isBool [] [])) [(.t 8)], none⟩]) impl_DataOf_b4) impl_DataOf_b2)
def impl_DataOf_b0 : HCode :=
  (.seq (.reg [⟨(some 2), .box (.t 0), none⟩,
    ⟨(some 4), .mov (.c (.str ⟨⟨[]⟩⟩)), none⟩]) impl_DataOf_b1)
def impl_DataOf : HFunc :=
  { np := 2, ntmps := 18, results := [(4, none)], body := impl_DataOf_b0 }
def laws_eqTy_b5 : HCode :=
  (.seq (.reg [⟨(some 4), .mov (.c (.bool true)), none⟩]) .ret)
def laws_eqTy_b7 : HCode :=
  (.seq (.reg [⟨(some 4), .mov (.c (.bool false)), none⟩]) .ret)
def laws_eqTy_b6 : HCode :=
  (.cond (.t 25) laws_eqTy_b7 .skip)
def laws_eqTy_b4 : HCode :=
  (.seq (.seq (.reg [⟨(some 20), .faddr 3 (.t 2), none⟩,
    ⟨(some 21), .load false 1 (.t 20), none⟩,
    ⟨(some 22), .faddr 3 (.t 3), none⟩,
    ⟨(some 23), .load false 1 (.t 22), none⟩,
    ⟨(some 24), .call (.c (.fn F.laws_eqTyS [] [])) [(.t 21), (.t 23)], none⟩,
    ⟨(some 25), .not (.t 24), none⟩]) laws_eqTy_b6) laws_eqTy_b5)
def laws_eqTy_b9 : HCode :=
  (.seq (.reg [⟨(some 4), .mov (.c (.bool false)), none⟩]) .ret)
def laws_eqTy_b8 : HCode :=
  (.cond (.t 19) laws_eqTy_b9 .skip)
def laws_eqTy_b3 : HCode :=
  (.seq (.seq (.reg [⟨(some 15), .faddr 2 (.t 2), none⟩,
    ⟨(some 16), .load false 1 (.t 15), none⟩,
    ⟨(some 17), .faddr 2 (.t 3), none⟩,
    ⟨(some 18), .load false 1 (.t 17), none⟩,
    ⟨(some 19), .bin .neq (.t 16) (.t 18), none⟩]) laws_eqTy_b8) laws_eqTy_b4)
def laws_eqTy_b11 : HCode :=
  (.seq (.reg [⟨(some 4), .mov (.c (.bool false)), none⟩]) .ret)
def laws_eqTy_b10 : HCode :=
  (.cond (.t 14) laws_eqTy_b11 .skip)
def laws_eqTy_b2 : HCode :=
  (.seq (.seq (.reg [⟨(some 10), .faddr 1 (.t 2), none⟩,
    ⟨(some 11), .load false 1 (.t 10), none⟩,
    ⟨(some 12), .faddr 1 (.t 3), none⟩,
    ⟨(some 13), .load false 1 (.t 12), none⟩,
    ⟨(some 14), .bin .neq (.t 11) (.t 13), none⟩]) laws_eqTy_b10) laws_eqTy_b3)
def laws_eqTy_b13 : HCode :=
  (.seq (.reg [⟨(some 4), .mov (.c (.bool false)), none⟩]) .ret)
def laws_eqTy_b12 : HCode :=
  (.cond (.t 9) laws_eqTy_b13 .skip)
def laws_eqTy_b1 : HCode :=
  (.seq (.seq (.reg [⟨(some 5), .faddr 0 (.t 2), none⟩,
    ⟨(some 6), .load false 1 (.t 5), none⟩,
    ⟨(some 7), .faddr 0 (.t 3), none⟩,
    ⟨(some 8), .load false 1 (.t 7), none⟩,
    ⟨(some 9), .bin .neq (.t 6) (.t 8), none⟩]) laws_eqTy_b12) laws_eqTy_b2)
def laws_eqTy_b0 : HCode :=
  (.seq (.reg [⟨(some 2), .box (.t 0), none⟩,
    ⟨(some 3), .box (.t 1), none⟩,
    ⟨(some 4), .mov (.c (.bool false)), none⟩]) laws_eqTy_b1)
def laws_eqTy : HFunc :=
  { np := 2, ntmps := 26, results := [(4, none)], body := laws_eqTy_b0 }
def laws_eqTyS_b3 : HCode :=
  (.seq (.reg [⟨(some 4), .mov (.c (.bool true)), none⟩]) .ret)
def laws_eqTyS_b7 : HCode :=
  (.reg [⟨(some 15), .mov (.t 5), none⟩,
    ⟨(some 16), .bin .add (.t 15) (.c (.int .i64 1)), none⟩,
    ⟨(some 5), .mov (.t 16), none⟩])
def laws_eqTyS_b9 : HCode :=
  (.seq (.reg [⟨(some 4), .mov (.c (.bool false)), none⟩]) .ret)
def laws_eqTyS_b8 : HCode :=
  (.cond (.t 26) laws_eqTyS_b9 .skip)
def laws_eqTyS_b6 : HCode :=
  (.seq (.block 1 (.seq (.dreg (.q ⟨(some 17), .mov (.t 0), none⟩ (.q ⟨(some 18), .mov (.t 5), none⟩ (.q ⟨(some 19), .iaddr 4 (.t 17) (.t 18), none⟩ (.q ⟨(some 20), .load true 4 (.t 19), none⟩ (.q ⟨(some 21), .mov (.t 1), none⟩ (.q ⟨(some 22), .mov (.t 5), none⟩ (.q ⟨(some 23), .iaddr 4 (.t 21) (.t 22), none⟩ (.q ⟨(some 24), .load true 4 (.t 23), none⟩ (.l ⟨(some 25), .call (.c (.fn F.laws_eqTy [] [])) [(.t 20), (.t 24)], none⟩ [] (.q ⟨(some 26), .not (.t 25), none⟩ .done) .none)))))))))) laws_eqTyS_b8)) laws_eqTyS_b7)
def laws_eqTyS_b10 : HCode :=
  (.cond (.t 14) .skip (.exit 0))
def laws_eqTyS_l5 : HCode :=
  (.seq (.seq (.reg [⟨(some 11), .mov (.t 5), none⟩,
    ⟨(some 12), .mov (.t 0), none⟩,
    ⟨(some 13), .len (.t 12), none⟩,
    ⟨(some 14), .bin .lss (.t 11) (.t 13), none⟩]) laws_eqTyS_b10) laws_eqTyS_b6)
def laws_eqTyS_b4 : HCode :=
  (.block 0 (.loop laws_eqTyS_l5))
def laws_eqTyS_b2 : HCode :=
  (.seq (.seq (.reg [⟨(some 5), .mov (.c (.int .i64 0)), none⟩]) laws_eqTyS_b4) laws_eqTyS_b3)
def laws_eqTyS_b12 : HCode :=
  (.seq (.reg [⟨(some 4), .mov (.c (.bool false)), none⟩]) .ret)
def laws_eqTyS_b11 : HCode :=
  (.cond (.t 10) laws_eqTyS_b12 .skip)
def laws_eqTyS_b1 : HCode :=
  (.seq (.seq (.reg [⟨(some 6), .mov (.t 0), none⟩,
    ⟨(some 7), .len (.t 6), none⟩,
    ⟨(some 8), .mov (.t 1), none⟩,
    ⟨(some 9), .len (.t 8), none⟩,
    ⟨(some 10), .bin .neq (.t 7) (.t 9), none⟩]) laws_eqTyS_b11) laws_eqTyS_b2)
def laws_eqTyS_b0 : HCode :=
  (.seq (.reg [⟨(some 4), .mov (.c (.bool false)), none⟩]) laws_eqTyS_b1)
def laws_eqTyS : HFunc :=
  { np := 2, ntmps := 27, results := [(4, none)], body := laws_eqTyS_b0 }
def laws_eqCon_b3 : HCode :=
  (.seq (.reg [⟨(some 4), .mov (.c (.bool true)), none⟩]) .ret)
def laws_eqCon_b5 : HCode :=
  (.seq (.reg [⟨(some 4), .mov (.c (.bool false)), none⟩]) .ret)
def laws_eqCon_b4 : HCode :=
  (.cond (.t 15) laws_eqCon_b5 .skip)
def laws_eqCon_b2 : HCode :=
  (.seq (.seq (.reg [⟨(some 10), .faddr 1 (.t 2), none⟩,
    ⟨(some 11), .load false 1 (.t 10), none⟩,
    ⟨(some 12), .faddr 1 (.t 3), none⟩,
    ⟨(some 13), .load false 1 (.t 12), none⟩,
    ⟨(some 14), .call (.c (.fn F.laws_eqTyS [] [])) [(.t 11), (.t 13)], none⟩,
    ⟨(some 15), .not (.t 14), none⟩]) laws_eqCon_b4) laws_eqCon_b3)
def laws_eqCon_b7 : HCode :=
  (.seq (.reg [⟨(some 4), .mov (.c (.bool false)), none⟩]) .ret)
def laws_eqCon_b6 : HCode :=
  (.cond (.t 9) laws_eqCon_b7 .skip)
def laws_eqCon_b1 : HCode :=
  (.seq (.seq (.reg [⟨(some 5), .faddr 0 (.t 2), none⟩,
    ⟨(some 6), .load false 1 (.t 5), none⟩,
    ⟨(some 7), .faddr 0 (.t 3), none⟩,
    ⟨(some 8), .load false 1 (.t 7), none⟩,
    ⟨(some 9), .bin .neq (.t 6) (.t 8), none⟩]) laws_eqCon_b6) laws_eqCon_b2)
def laws_eqCon_b0 : HCode :=
  (.seq (.reg [⟨(some 2), .box (.t 0), none⟩,
    ⟨(some 3), .box (.t 1), none⟩,
    ⟨(some 4), .mov (.c (.bool false)), none⟩]) laws_eqCon_b1)
def laws_eqCon : HFunc :=
  { np := 2, ntmps := 16, results := [(4, none)], body := laws_eqCon_b0 }
def laws_eqConS_b3 : HCode :=
  (.seq (.reg [⟨(some 4), .mov (.c (.bool true)), none⟩]) .ret)
def laws_eqConS_b7 : HCode :=
  (.reg [⟨(some 15), .mov (.t 5), none⟩,
    ⟨(some 16), .bin .add (.t 15) (.c (.int .i64 1)), none⟩,
    ⟨(some 5), .mov (.t 16), none⟩])
def laws_eqConS_b9 : HCode :=
  (.seq (.reg [⟨(some 4), .mov (.c (.bool false)), none⟩]) .ret)
def laws_eqConS_b8 : HCode :=
  (.cond (.t 26) laws_eqConS_b9 .skip)
def laws_eqConS_b6 : HCode :=
  (.seq (.block 1 (.seq (.dreg (.q ⟨(some 17), .mov (.t 0), none⟩ (.q ⟨(some 18), .mov (.t 5), none⟩ (.q ⟨(some 19), .iaddr 2 (.t 17) (.t 18), none⟩ (.q ⟨(some 20), .load true 2 (.t 19), none⟩ (.q ⟨(some 21), .mov (.t 1), none⟩ (.q ⟨(some 22), .mov (.t 5), none⟩ (.q ⟨(some 23), .iaddr 2 (.t 21) (.t 22), none⟩ (.q ⟨(some 24), .load true 2 (.t 23), none⟩ (.l ⟨(some 25), .call (.c (.fn F.laws_eqCon [] [])) [(.t 20), (.t 24)], none⟩ [] (.q ⟨(some 26), .not (.t 25), none⟩ .done) .none)))))))))) laws_eqConS_b8)) laws_eqConS_b7)
def laws_eqConS_b10 : HCode :=
  (.cond (.t 14) .skip (.exit 0))
def laws_eqConS_l5 : HCode :=
  (.seq (.seq (.reg [⟨(some 11), .mov (.t 5), none⟩,
    ⟨(some 12), .mov (.t 0), none⟩,
    ⟨(some 13), .len (.t 12), none⟩,
    ⟨(some 14), .bin .lss (.t 11) (.t 13), none⟩]) laws_eqConS_b10) laws_eqConS_b6)
def laws_eqConS_b4 : HCode :=
  (.block 0 (.loop laws_eqConS_l5))
def laws_eqConS_b2 : HCode :=
  (.seq (.seq (.reg [⟨(some 5), .mov (.c (.int .i64 0)), none⟩]) laws_eqConS_b4) laws_eqConS_b3)
def laws_eqConS_b12 : HCode :=
  (.seq (.reg [⟨(some 4), .mov (.c (.bool false)), none⟩]) .ret)
def laws_eqConS_b11 : HCode :=
  (.cond (.t 10) laws_eqConS_b12 .skip)
def laws_eqConS_b1 : HCode :=
  (.seq (.seq (.reg [⟨(some 6), .mov (.t 0), none⟩,
    ⟨(some 7), .len (.t 6), none⟩,
    ⟨(some 8), .mov (.t 1), none⟩,
    ⟨(some 9), .len (.t 8), none⟩,
    ⟨(some 10), .bin .neq (.t 7) (.t 9), none⟩]) laws_eqConS_b11) laws_eqConS_b2)
def laws_eqConS_b0 : HCode :=
  (.seq (.reg [⟨(some 4), .mov (.c (.bool false)), none⟩]) laws_eqConS_b1)
def laws_eqConS : HFunc :=
  { np := 2, ntmps := 27, results := [(4, none)], body := laws_eqConS_b0 }
def laws_eqData_b3 : HCode :=
  (.seq (.reg [⟨(some 4), .mov (.c (.bool true)), none⟩]) .ret)
def laws_eqData_b5 : HCode :=
  (.seq (.reg [⟨(some 4), .mov (.c (.bool false)), none⟩]) .ret)
def laws_eqData_b4 : HCode :=
  (.cond (.t 15) laws_eqData_b5 .skip)
def laws_eqData_b2 : HCode :=
  (.seq (.seq (.reg [⟨(some 10), .faddr 1 (.t 2), none⟩,
    ⟨(some 11), .load false 1 (.t 10), none⟩,
    ⟨(some 12), .faddr 1 (.t 3), none⟩,
    ⟨(some 13), .load false 1 (.t 12), none⟩,
    ⟨(some 14), .call (.c (.fn F.laws_eqConS [] [])) [(.t 11), (.t 13)], none⟩,
    ⟨(some 15), .not (.t 14), none⟩]) laws_eqData_b4) laws_eqData_b3)
def laws_eqData_b7 : HCode :=
  (.seq (.reg [⟨(some 4), .mov (.c (.bool false)), none⟩]) .ret)
def laws_eqData_b6 : HCode :=
  (.cond (.t 9) laws_eqData_b7 .skip)
def laws_eqData_b1 : HCode :=
  (.seq (.seq (.reg [⟨(some 5), .faddr 0 (.t 2), none⟩,
    ⟨(some 6), .load false 1 (.t 5), none⟩,
    ⟨(some 7), .faddr 0 (.t 3), none⟩,
    ⟨(some 8), .load false 1 (.t 7), none⟩,
    ⟨(some 9), .bin .neq (.t 6) (.t 8), none⟩]) laws_eqData_b6) laws_eqData_b2)
def laws_eqData_b0 : HCode :=
  (.seq (.reg [⟨(some 2), .box (.t 0), none⟩,
    ⟨(some 3), .box (.t 1), none⟩,
    ⟨(some 4), .mov (.c (.bool false)), none⟩]) laws_eqData_b1)
def laws_eqData : HFunc :=
  { np := 2, ntmps := 16, results := [(4, none)], body := laws_eqData_b0 }
def laws_eqDataS_b3 : HCode :=
  (.seq (.reg [⟨(some 4), .mov (.c (.bool true)), none⟩]) .ret)
def laws_eqDataS_b7 : HCode :=
  (.reg [⟨(some 15), .mov (.t 5), none⟩,
    ⟨(some 16), .bin .add (.t 15) (.c (.int .i64 1)), none⟩,
    ⟨(some 5), .mov (.t 16), none⟩])
def laws_eqDataS_b9 : HCode :=
  (.seq (.reg [⟨(some 4), .mov (.c (.bool false)), none⟩]) .ret)
def laws_eqDataS_b8 : HCode :=
  (.cond (.t 26) laws_eqDataS_b9 .skip)
def laws_eqDataS_b6 : HCode :=
  (.seq (.block 1 (.seq (.dreg (.q ⟨(some 17), .mov (.t 0), none⟩ (.q ⟨(some 18), .mov (.t 5), none⟩ (.q ⟨(some 19), .iaddr 2 (.t 17) (.t 18), none⟩ (.q ⟨(some 20), .load true 2 (.t 19), none⟩ (.q ⟨(some 21), .mov (.t 1), none⟩ (.q ⟨(some 22), .mov (.t 5), none⟩ (.q ⟨(some 23), .iaddr 2 (.t 21) (.t 22), none⟩ (.q ⟨(some 24), .load true 2 (.t 23), none⟩ (.l ⟨(some 25), .call (.c (.fn F.laws_eqData [] [])) [(.t 20), (.t 24)], none⟩ [] (.q ⟨(some 26), .not (.t 25), none⟩ .done) .none)))))))))) laws_eqDataS_b8)) laws_eqDataS_b7)
def laws_eqDataS_b10 : HCode :=
  (.cond (.t 14) .skip (.exit 0))
def laws_eqDataS_l5 : HCode :=
  (.seq (.seq (.reg [⟨(some 11), .mov (.t 5), none⟩,
    ⟨(some 12), .mov (.t 0), none⟩,
    ⟨(some 13), .len (.t 12), none⟩,
    ⟨(some 14), .bin .lss (.t 11) (.t 13), none⟩]) laws_eqDataS_b10) laws_eqDataS_b6)
def laws_eqDataS_b4 : HCode :=
  (.block 0 (.loop laws_eqDataS_l5))
def laws_eqDataS_b2 : HCode :=
  (.seq (.seq (.reg [⟨(some 5), .mov (.c (.int .i64 0)), none⟩]) laws_eqDataS_b4) laws_eqDataS_b3)
def laws_eqDataS_b12 : HCode :=
  (.seq (.reg [⟨(some 4), .mov (.c (.bool false)), none⟩]) .ret)
def laws_eqDataS_b11 : HCode :=
  (.cond (.t 10) laws_eqDataS_b12 .skip)
def laws_eqDataS_b1 : HCode :=
  (.seq (.seq (.reg [⟨(some 6), .mov (.t 0), none⟩,
    ⟨(some 7), .len (.t 6), none⟩,
    ⟨(some 8), .mov (.t 1), none⟩,
    ⟨(some 9), .len (.t 8), none⟩,
    ⟨(some 10), .bin .neq (.t 7) (.t 9), none⟩]) laws_eqDataS_b11) laws_eqDataS_b2)
def laws_eqDataS_b0 : HCode :=
  (.seq (.reg [⟨(some 4), .mov (.c (.bool false)), none⟩]) laws_eqDataS_b1)
def laws_eqDataS : HFunc :=
  { np := 2, ntmps := 27, results := [(4, none)], body := laws_eqDataS_b0 }
def laws_eqStringS_b3 : HCode :=
  (.seq (.reg [⟨(some 4), .mov (.c (.bool true)), none⟩]) .ret)
def laws_eqStringS_b7 : HCode :=
  (.reg [⟨(some 15), .mov (.t 5), none⟩,
    ⟨(some 16), .bin .add (.t 15) (.c (.int .i64 1)), none⟩,
    ⟨(some 5), .mov (.t 16), none⟩])
def laws_eqStringS_b9 : HCode :=
  (.seq (.reg [⟨(some 4), .mov (.c (.bool false)), none⟩]) .ret)
def laws_eqStringS_b8 : HCode :=
  (.cond (.t 25) laws_eqStringS_b9 .skip)
def laws_eqStringS_b6 : HCode :=
  (.seq (.block 1 (.seq (.dreg (.q ⟨(some 17), .mov (.t 0), none⟩ (.q ⟨(some 18), .mov (.t 5), none⟩ (.q ⟨(some 19), .iaddr 1 (.t 17) (.t 18), none⟩ (.q ⟨(some 20), .load false 1 (.t 19), none⟩ (.q ⟨(some 21), .mov (.t 1), none⟩ (.q ⟨(some 22), .mov (.t 5), none⟩ (.q ⟨(some 23), .iaddr 1 (.t 21) (.t 22), none⟩ (.q ⟨(some 24), .load false 1 (.t 23), none⟩ (.q ⟨(some 25), .bin .neq (.t 20) (.t 24), none⟩ .done)))))))))) laws_eqStringS_b8)) laws_eqStringS_b7)
def laws_eqStringS_b10 : HCode :=
  (.cond (.t 14) .skip (.exit 0))
def laws_eqStringS_l5 : HCode :=
  (.seq (.seq (.reg [⟨(some 11), .mov (.t 5), none⟩,
    ⟨(some 12), .mov (.t 0), none⟩,
    ⟨(some 13), .len (.t 12), none⟩,
    ⟨(some 14), .bin .lss (.t 11) (.t 13), none⟩]) laws_eqStringS_b10) laws_eqStringS_b6)
def laws_eqStringS_b4 : HCode :=
  (.block 0 (.loop laws_eqStringS_l5))
def laws_eqStringS_b2 : HCode :=
  (.seq (.seq (.reg [⟨(some 5), .mov (.c (.int .i64 0)), none⟩]) laws_eqStringS_b4) laws_eqStringS_b3)
def laws_eqStringS_b12 : HCode :=
  (.seq (.reg [⟨(some 4), .mov (.c (.bool false)), none⟩]) .ret)
def laws_eqStringS_b11 : HCode :=
  (.cond (.t 10) laws_eqStringS_b12 .skip)
def laws_eqStringS_b1 : HCode :=
  (.seq (.seq (.reg [⟨(some 6), .mov (.t 0), none⟩,
    ⟨(some 7), .len (.t 6), none⟩,
    ⟨(some 8), .mov (.t 1), none⟩,
    ⟨(some 9), .len (.t 8), none⟩,
    ⟨(some 10), .bin .neq (.t 7) (.t 9), none⟩]) laws_eqStringS_b11) laws_eqStringS_b2)
def laws_eqStringS_b0 : HCode :=
  (.seq (.reg [⟨(some 4), .mov (.c (.bool false)), none⟩]) laws_eqStringS_b1)
def laws_eqStringS : HFunc :=
  { np := 2, ntmps := 26, results := [(4, none)], body := laws_eqStringS_b0 }
def laws_eqAlt_b4 : HCode :=
  (.seq (.reg [⟨(some 4), .mov (.c (.bool true)), none⟩]) .ret)
def laws_eqAlt_b6 : HCode :=
  (.seq (.reg [⟨(some 4), .mov (.c (.bool false)), none⟩]) .ret)
def laws_eqAlt_b5 : HCode :=
  (.cond (.t 21) laws_eqAlt_b6 .skip)
def laws_eqAlt_b3 : HCode :=
  (.seq (.seq (.reg [⟨(some 16), .faddr 2 (.t 2), none⟩,
    ⟨(some 17), .load true 6 (.t 16), none⟩,
    ⟨(some 18), .faddr 2 (.t 3), none⟩,
    ⟨(some 19), .load true 6 (.t 18), none⟩,
    ⟨(some 20), .call (.c (.fn F.laws_eqExp [] [])) [(.t 17), (.t 19)], none⟩,
    ⟨(some 21), .not (.t 20), none⟩]) laws_eqAlt_b5) laws_eqAlt_b4)
def laws_eqAlt_b8 : HCode :=
  (.seq (.reg [⟨(some 4), .mov (.c (.bool false)), none⟩]) .ret)
def laws_eqAlt_b7 : HCode :=
  (.cond (.t 15) laws_eqAlt_b8 .skip)
def laws_eqAlt_b2 : HCode :=
  (.seq (.seq (.reg [⟨(some 10), .faddr 1 (.t 2), none⟩,
    ⟨(some 11), .load false 1 (.t 10), none⟩,
    ⟨(some 12), .faddr 1 (.t 3), none⟩,
    ⟨(some 13), .load false 1 (.t 12), none⟩,
    ⟨(some 14), .call (.c (.fn F.laws_eqStringS [] [])) [(.t 11), (.t 13)], none⟩,
    ⟨(some 15), .not (.t 14), none⟩]) laws_eqAlt_b7) laws_eqAlt_b3)
def laws_eqAlt_b10 : HCode :=
  (.seq (.reg [⟨(some 4), .mov (.c (.bool false)), none⟩]) .ret)
def laws_eqAlt_b9 : HCode :=
  (.cond (.t 9) laws_eqAlt_b10 .skip)
def laws_eqAlt_b1 : HCode :=
  (.seq (.seq (.reg [⟨(some 5), .faddr 0 (.t 2), none⟩,
    ⟨(some 6), .load false 1 (.t 5), none⟩,
    ⟨(some 7), .faddr 0 (.t 3), none⟩,
    ⟨(some 8), .load false 1 (.t 7), none⟩,
    ⟨(some 9), .bin .neq (.t 6) (.t 8), none⟩]) laws_eqAlt_b9) laws_eqAlt_b2)
def laws_eqAlt_b0 : HCode :=
  (.seq (.reg [⟨(some 2), .box (.t 0), none⟩,
    ⟨(some 3), .box (.t 1), none⟩,
    ⟨(some 4), .mov (.c (.bool false)), none⟩]) laws_eqAlt_b1)
def laws_eqAlt : HFunc :=
  { np := 2, ntmps := 22, results := [(4, none)], body := laws_eqAlt_b0 }
def laws_eqAltS_b3 : HCode :=
  (.seq (.reg [⟨(some 4), .mov (.c (.bool true)), none⟩]) .ret)
def laws_eqAltS_b7 : HCode :=
  (.reg [⟨(some 15), .mov (.t 5), none⟩,
    ⟨(some 16), .bin .add (.t 15) (.c (.int .i64 1)), none⟩,
    ⟨(some 5), .mov (.t 16), none⟩])
def laws_eqAltS_b9 : HCode :=
  (.seq (.reg [⟨(some 4), .mov (.c (.bool false)), none⟩]) .ret)
def laws_eqAltS_b8 : HCode :=
  (.cond (.t 26) laws_eqAltS_b9 .skip)
def laws_eqAltS_b6 : HCode :=
  (.seq (.block 1 (.seq (.dreg (.q ⟨(some 17), .mov (.t 0), none⟩ (.q ⟨(some 18), .mov (.t 5), none⟩ (.q ⟨(some 19), .iaddr 8 (.t 17) (.t 18), none⟩ (.q ⟨(some 20), .load true 8 (.t 19), none⟩ (.q ⟨(some 21), .mov (.t 1), none⟩ (.q ⟨(some 22), .mov (.t 5), none⟩ (.q ⟨(some 23), .iaddr 8 (.t 21) (.t 22), none⟩ (.q ⟨(some 24), .load true 8 (.t 23), none⟩ (.l ⟨(some 25), .call (.c (.fn F.laws_eqAlt [] [])) [(.t 20), (.t 24)], none⟩ [] (.q ⟨(some 26), .not (.t 25), none⟩ .done) .none)))))))))) laws_eqAltS_b8)) laws_eqAltS_b7)
def laws_eqAltS_b10 : HCode :=
  (.cond (.t 14) .skip (.exit 0))
def laws_eqAltS_l5 : HCode :=
  (.seq (.seq (.reg [⟨(some 11), .mov (.t 5), none⟩,
    ⟨(some 12), .mov (.t 0), none⟩,
    ⟨(some 13), .len (.t 12), none⟩,
    ⟨(some 14), .bin .lss (.t 11) (.t 13), none⟩]) laws_eqAltS_b10) laws_eqAltS_b6)
def laws_eqAltS_b4 : HCode :=
  (.block 0 (.loop laws_eqAltS_l5))
def laws_eqAltS_b2 : HCode :=
  (.seq (.seq (.reg [⟨(some 5), .mov (.c (.int .i64 0)), none⟩]) laws_eqAltS_b4) laws_eqAltS_b3)
def laws_eqAltS_b12 : HCode :=
  (.seq (.reg [⟨(some 4), .mov (.c (.bool false)), none⟩]) .ret)
def laws_eqAltS_b11 : HCode :=
  (.cond (.t 10) laws_eqAltS_b12 .skip)
def laws_eqAltS_b1 : HCode :=
  (.seq (.seq (.reg [⟨(some 6), .mov (.t 0), none⟩,
    ⟨(some 7), .len (.t 6), none⟩,
    ⟨(some 8), .mov (.t 1), none⟩,
    ⟨(some 9), .len (.t 8), none⟩,
    ⟨(some 10), .bin .neq (.t 7) (.t 9), none⟩]) laws_eqAltS_b11) laws_eqAltS_b2)
def laws_eqAltS_b0 : HCode :=
  (.seq (.reg [⟨(some 4), .mov (.c (.bool false)), none⟩]) laws_eqAltS_b1)
def laws_eqAltS : HFunc :=
  { np := 2, ntmps := 27, results := [(4, none)], body := laws_eqAltS_b0 }
def laws_eqDec_b5 : HCode :=
  (.seq (.reg [⟨(some 4), .mov (.c (.bool true)), none⟩]) .ret)
def laws_eqDec_b7 : HCode :=
  (.seq (.reg [⟨(some 4), .mov (.c (.bool false)), none⟩]) .ret)
def laws_eqDec_b6 : HCode :=
  (.cond (.t 27) laws_eqDec_b7 .skip)
def laws_eqDec_b4 : HCode :=
  (.seq (.seq (.reg [⟨(some 22), .faddr 8 (.t 2), none⟩,
    ⟨(some 23), .load false 1 (.t 22), none⟩,
    ⟨(some 24), .faddr 8 (.t 3), none⟩,
    ⟨(some 25), .load false 1 (.t 24), none⟩,
    ⟨(some 26), .call (.c (.fn F.laws_eqDecS [] [])) [(.t 23), (.t 25)], none⟩,
    ⟨(some 27), .not (.t 26), none⟩]) laws_eqDec_b6) laws_eqDec_b5)
def laws_eqDec_b9 : HCode :=
  (.seq (.reg [⟨(some 4), .mov (.c (.bool false)), none⟩]) .ret)
def laws_eqDec_b8 : HCode :=
  (.cond (.t 21) laws_eqDec_b9 .skip)
def laws_eqDec_b3 : HCode :=
  (.seq (.seq (.reg [⟨(some 16), .faddr 2 (.t 2), none⟩,
    ⟨(some 17), .load true 6 (.t 16), none⟩,
    ⟨(some 18), .faddr 2 (.t 3), none⟩,
    ⟨(some 19), .load true 6 (.t 18), none⟩,
    ⟨(some 20), .call (.c (.fn F.laws_eqExp [] [])) [(.t 17), (.t 19)], none⟩,
    ⟨(some 21), .not (.t 20), none⟩]) laws_eqDec_b8) laws_eqDec_b4)
def laws_eqDec_b11 : HCode :=
  (.seq (.reg [⟨(some 4), .mov (.c (.bool false)), none⟩]) .ret)
def laws_eqDec_b10 : HCode :=
  (.cond (.t 15) laws_eqDec_b11 .skip)
def laws_eqDec_b2 : HCode :=
  (.seq (.seq (.reg [⟨(some 10), .faddr 1 (.t 2), none⟩,
    ⟨(some 11), .load false 1 (.t 10), none⟩,
    ⟨(some 12), .faddr 1 (.t 3), none⟩,
    ⟨(some 13), .load false 1 (.t 12), none⟩,
    ⟨(some 14), .call (.c (.fn F.laws_eqStringS [] [])) [(.t 11), (.t 13)], none⟩,
    ⟨(some 15), .not (.t 14), none⟩]) laws_eqDec_b10) laws_eqDec_b3)
def laws_eqDec_b13 : HCode :=
  (.seq (.reg [⟨(some 4), .mov (.c (.bool false)), none⟩]) .ret)
def laws_eqDec_b12 : HCode :=
  (.cond (.t 9) laws_eqDec_b13 .skip)
def laws_eqDec_b1 : HCode :=
  (.seq (.seq (.reg [⟨(some 5), .faddr 0 (.t 2), none⟩,
    ⟨(some 6), .load false 1 (.t 5), none⟩,
    ⟨(some 7), .faddr 0 (.t 3), none⟩,
    ⟨(some 8), .load false 1 (.t 7), none⟩,
    ⟨(some 9), .bin .neq (.t 6) (.t 8), none⟩]) laws_eqDec_b12) laws_eqDec_b2)
def laws_eqDec_b0 : HCode :=
  (.seq (.reg [⟨(some 2), .box (.t 0), none⟩,
    ⟨(some 3), .box (.t 1), none⟩,
    ⟨(some 4), .mov (.c (.bool false)), none⟩]) laws_eqDec_b1)
def laws_eqDec : HFunc :=
  { np := 2, ntmps := 28, results := [(4, none)], body := laws_eqDec_b0 }
def laws_eqDecS_b3 : HCode :=
  (.seq (.reg [⟨(some 4), .mov (.c (.bool true)), none⟩]) .ret)
def laws_eqDecS_b7 : HCode :=
  (.reg [⟨(some 15), .mov (.t 5), none⟩,
    ⟨(some 16), .bin .add (.t 15) (.c (.int .i64 1)), none⟩,
    ⟨(some 5), .mov (.t 16), none⟩])
def laws_eqDecS_b9 : HCode :=
  (.seq (.reg [⟨(some 4), .mov (.c (.bool false)), none⟩]) .ret)
def laws_eqDecS_b8 : HCode :=
  (.cond (.t 26) laws_eqDecS_b9 .skip)
def laws_eqDecS_b6 : HCode :=
  (.seq (.block 1 (.seq (.dreg (.q ⟨(some 17), .mov (.t 0), none⟩ (.q ⟨(some 18), .mov (.t 5), none⟩ (.q ⟨(some 19), .iaddr 9 (.t 17) (.t 18), none⟩ (.q ⟨(some 20), .load true 9 (.t 19), none⟩ (.q ⟨(some 21), .mov (.t 1), none⟩ (.q ⟨(some 22), .mov (.t 5), none⟩ (.q ⟨(some 23), .iaddr 9 (.t 21) (.t 22), none⟩ (.q ⟨(some 24), .load true 9 (.t 23), none⟩ (.l ⟨(some 25), .call (.c (.fn F.laws_eqDec [] [])) [(.t 20), (.t 24)], none⟩ [] (.q ⟨(some 26), .not (.t 25), none⟩ .done) .none)))))))))) laws_eqDecS_b8)) laws_eqDecS_b7)
def laws_eqDecS_b10 : HCode :=
  (.cond (.t 14) .skip (.exit 0))
def laws_eqDecS_l5 : HCode :=
  (.seq (.seq (.reg [⟨(some 11), .mov (.t 5), none⟩,
    ⟨(some 12), .mov (.t 0), none⟩,
    ⟨(some 13), .len (.t 12), none⟩,
    ⟨(some 14), .bin .lss (.t 11) (.t 13), none⟩]) laws_eqDecS_b10) laws_eqDecS_b6)
def laws_eqDecS_b4 : HCode :=
  (.block 0 (.loop laws_eqDecS_l5))
def laws_eqDecS_b2 : HCode :=
  (.seq (.seq (.reg [⟨(some 5), .mov (.c (.int .i64 0)), none⟩]) laws_eqDecS_b4) laws_eqDecS_b3)
def laws_eqDecS_b12 : HCode :=
  (.seq (.reg [⟨(some 4), .mov (.c (.bool false)), none⟩]) .ret)
def laws_eqDecS_b11 : HCode :=
  (.cond (.t 10) laws_eqDecS_b12 .skip)
def laws_eqDecS_b1 : HCode :=
  (.seq (.seq (.reg [⟨(some 6), .mov (.t 0), none⟩,
    ⟨(some 7), .len (.t 6), none⟩,
    ⟨(some 8), .mov (.t 1), none⟩,
    ⟨(some 9), .len (.t 8), none⟩,
    ⟨(some 10), .bin .neq (.t 7) (.t 9), none⟩]) laws_eqDecS_b11) laws_eqDecS_b2)
def laws_eqDecS_b0 : HCode :=
  (.seq (.reg [⟨(some 4), .mov (.c (.bool false)), none⟩]) laws_eqDecS_b1)
def laws_eqDecS : HFunc :=
  { np := 2, ntmps := 27, results := [(4, none)], body := laws_eqDecS_b0 }
def laws_eqExp_b7 : HCode :=
  (.seq (.reg [⟨(some 4), .mov (.c (.bool true)), none⟩]) .ret)
def laws_eqExp_b9 : HCode :=
  (.seq (.reg [⟨(some 4), .mov (.c (.bool false)), none⟩]) .ret)
def laws_eqExp_b8 : HCode :=
  (.cond (.t 37) laws_eqExp_b9 .skip)
def laws_eqExp_b6 : HCode :=
  (.seq (.seq (.reg [⟨(some 32), .faddr 5 (.t 2), none⟩,
    ⟨(some 33), .load false 1 (.t 32), none⟩,
    ⟨(some 34), .faddr 5 (.t 3), none⟩,
    ⟨(some 35), .load false 1 (.t 34), none⟩,
    ⟨(some 36), .call (.c (.fn F.laws_eqAltS [] [])) [(.t 33), (.t 35)], none⟩,
    ⟨(some 37), .not (.t 36), none⟩]) laws_eqExp_b8) laws_eqExp_b7)
def laws_eqExp_b11 : HCode :=
  (.seq (.reg [⟨(some 4), .mov (.c (.bool false)), none⟩]) .ret)
def laws_eqExp_b10 : HCode :=
  (.cond (.t 31) laws_eqExp_b11 .skip)
def laws_eqExp_b5 : HCode :=
  (.seq (.seq (.reg [⟨(some 26), .faddr 4 (.t 2), none⟩,
    ⟨(some 27), .load false 1 (.t 26), none⟩,
    ⟨(some 28), .faddr 4 (.t 3), none⟩,
    ⟨(some 29), .load false 1 (.t 28), none⟩,
    ⟨(some 30), .call (.c (.fn F.laws_eqDecS [] [])) [(.t 27), (.t 29)], none⟩,
    ⟨(some 31), .not (.t 30), none⟩]) laws_eqExp_b10) laws_eqExp_b6)
def laws_eqExp_b13 : HCode :=
  (.seq (.reg [⟨(some 4), .mov (.c (.bool false)), none⟩]) .ret)
def laws_eqExp_b12 : HCode :=
  (.cond (.t 25) laws_eqExp_b13 .skip)
def laws_eqExp_b4 : HCode :=
  (.seq (.seq (.reg [⟨(some 20), .faddr 3 (.t 2), none⟩,
    ⟨(some 21), .load false 1 (.t 20), none⟩,
    ⟨(some 22), .faddr 3 (.t 3), none⟩,
    ⟨(some 23), .load false 1 (.t 22), none⟩,
    ⟨(some 24), .call (.c (.fn F.laws_eqExpS [] [])) [(.t 21), (.t 23)], none⟩,
    ⟨(some 25), .not (.t 24), none⟩]) laws_eqExp_b12) laws_eqExp_b5)
def laws_eqExp_b15 : HCode :=
  (.seq (.reg [⟨(some 4), .mov (.c (.bool false)), none⟩]) .ret)
def laws_eqExp_b14 : HCode :=
  (.cond (.t 19) laws_eqExp_b15 .skip)
def laws_eqExp_b3 : HCode :=
  (.seq (.seq (.reg [⟨(some 15), .faddr 2 (.t 2), none⟩,
    ⟨(some 16), .load false 1 (.t 15), none⟩,
    ⟨(some 17), .faddr 2 (.t 3), none⟩,
    ⟨(some 18), .load false 1 (.t 17), none⟩,
    ⟨(some 19), .bin .neq (.t 16) (.t 18), none⟩]) laws_eqExp_b14) laws_eqExp_b4)
def laws_eqExp_b17 : HCode :=
  (.seq (.reg [⟨(some 4), .mov (.c (.bool false)), none⟩]) .ret)
def laws_eqExp_b16 : HCode :=
  (.cond (.t 14) laws_eqExp_b17 .skip)
def laws_eqExp_b2 : HCode :=
  (.seq (.seq (.reg [⟨(some 10), .faddr 1 (.t 2), none⟩,
    ⟨(some 11), .load false 1 (.t 10), none⟩,
    ⟨(some 12), .faddr 1 (.t 3), none⟩,
    ⟨(some 13), .load false 1 (.t 12), none⟩,
    ⟨(some 14), .bin .neq (.t 11) (.t 13), none⟩]) laws_eqExp_b16) laws_eqExp_b3)
def laws_eqExp_b19 : HCode :=
  (.seq (.reg [⟨(some 4), .mov (.c (.bool false)), none⟩]) .ret)
def laws_eqExp_b18 : HCode :=
  (.cond (.t 9) laws_eqExp_b19 .skip)
def laws_eqExp_b1 : HCode :=
  (.seq (.seq (.reg [⟨(some 5), .faddr 0 (.t 2), none⟩,
    ⟨(some 6), .load false 1 (.t 5), none⟩,
    ⟨(some 7), .faddr 0 (.t 3), none⟩,
    ⟨(some 8), .load false 1 (.t 7), none⟩,
    ⟨(some 9), .bin .neq (.t 6) (.t 8), none⟩]) laws_eqExp_b18) laws_eqExp_b2)
def laws_eqExp_b0 : HCode :=
  (.seq (.reg [⟨(some 2), .box (.t 0), none⟩,
    ⟨(some 3), .box (.t 1), none⟩,
    ⟨(some 4), .mov (.c (.bool false)), none⟩]) laws_eqExp_b1)
def laws_eqExp : HFunc :=
  { np := 2, ntmps := 38, results := [(4, none)], body := laws_eqExp_b0 }
def laws_eqExpS_b3 : HCode :=
  (.seq (.reg [⟨(some 4), .mov (.c (.bool true)), none⟩]) .ret)
def laws_eqExpS_b7 : HCode :=
  (.reg [⟨(some 15), .mov (.t 5), none⟩,
    ⟨(some 16), .bin .add (.t 15) (.c (.int .i64 1)), none⟩,
    ⟨(some 5), .mov (.t 16), none⟩])
def laws_eqExpS_b9 : HCode :=
  (.seq (.reg [⟨(some 4), .mov (.c (.bool false)), none⟩]) .ret)
def laws_eqExpS_b8 : HCode :=
  (.cond (.t 26) laws_eqExpS_b9 .skip)
def laws_eqExpS_b6 : HCode :=
  (.seq (.block 1 (.seq (.dreg (.q ⟨(some 17), .mov (.t 0), none⟩ (.q ⟨(some 18), .mov (.t 5), none⟩ (.q ⟨(some 19), .iaddr 6 (.t 17) (.t 18), none⟩ (.q ⟨(some 20), .load true 6 (.t 19), none⟩ (.q ⟨(some 21), .mov (.t 1), none⟩ (.q ⟨(some 22), .mov (.t 5), none⟩ (.q ⟨(some 23), .iaddr 6 (.t 21) (.t 22), none⟩ (.q ⟨(some 24), .load true 6 (.t 23), none⟩ (.l ⟨(some 25), .call (.c (.fn F.laws_eqExp [] [])) [(.t 20), (.t 24)], none⟩ [] (.q ⟨(some 26), .not (.t 25), none⟩ .done) .none)))))))))) laws_eqExpS_b8)) laws_eqExpS_b7)
def laws_eqExpS_b10 : HCode :=
  (.cond (.t 14) .skip (.exit 0))
def laws_eqExpS_l5 : HCode :=
  (.seq (.seq (.reg [⟨(some 11), .mov (.t 5), none⟩,
    ⟨(some 12), .mov (.t 0), none⟩,
    ⟨(some 13), .len (.t 12), none⟩,
    ⟨(some 14), .bin .lss (.t 11) (.t 13), none⟩]) laws_eqExpS_b10) laws_eqExpS_b6)
def laws_eqExpS_b4 : HCode :=
  (.block 0 (.loop laws_eqExpS_l5))
def laws_eqExpS_b2 : HCode :=
  (.seq (.seq (.reg [⟨(some 5), .mov (.c (.int .i64 0)), none⟩]) laws_eqExpS_b4) laws_eqExpS_b3)
def laws_eqExpS_b12 : HCode :=
  (.seq (.reg [⟨(some 4), .mov (.c (.bool false)), none⟩]) .ret)
def laws_eqExpS_b11 : HCode :=
  (.cond (.t 10) laws_eqExpS_b12 .skip)
def laws_eqExpS_b1 : HCode :=
  (.seq (.seq (.reg [⟨(some 6), .mov (.t 0), none⟩,
    ⟨(some 7), .len (.t 6), none⟩,
    ⟨(some 8), .mov (.t 1), none⟩,
    ⟨(some 9), .len (.t 8), none⟩,
    ⟨(some 10), .bin .neq (.t 7) (.t 9), none⟩]) laws_eqExpS_b11) laws_eqExpS_b2)
def laws_eqExpS_b0 : HCode :=
  (.seq (.reg [⟨(some 4), .mov (.c (.bool false)), none⟩]) laws_eqExpS_b1)
def laws_eqExpS : HFunc :=
  { np := 2, ntmps := 27, results := [(4, none)], body := laws_eqExpS_b0 }
def laws_eqProg_b3 : HCode :=
  (.seq (.reg [⟨(some 4), .mov (.c (.bool true)), none⟩]) .ret)
def laws_eqProg_b5 : HCode :=
  (.seq (.reg [⟨(some 4), .mov (.c (.bool false)), none⟩]) .ret)
def laws_eqProg_b4 : HCode :=
  (.cond (.t 16) laws_eqProg_b5 .skip)
def laws_eqProg_b2 : HCode :=
  (.seq (.seq (.reg [⟨(some 11), .faddr 1 (.t 2), none⟩,
    ⟨(some 12), .load false 1 (.t 11), none⟩,
    ⟨(some 13), .faddr 1 (.t 3), none⟩,
    ⟨(some 14), .load false 1 (.t 13), none⟩,
    ⟨(some 15), .call (.c (.fn F.laws_eqDecS [] [])) [(.t 12), (.t 14)], none⟩,
    ⟨(some 16), .not (.t 15), none⟩]) laws_eqProg_b4) laws_eqProg_b3)
def laws_eqProg_b7 : HCode :=
  (.seq (.reg [⟨(some 4), .mov (.c (.bool false)), none⟩]) .ret)
def laws_eqProg_b6 : HCode :=
  (.cond (.t 10) laws_eqProg_b7 .skip)
def laws_eqProg_b1 : HCode :=
  (.seq (.seq (.reg [⟨(some 5), .faddr 0 (.t 2), none⟩,
    ⟨(some 6), .load false 1 (.t 5), none⟩,
    ⟨(some 7), .faddr 0 (.t 3), none⟩,
    ⟨(some 8), .load false 1 (.t 7), none⟩,
    ⟨(some 9), .call (.c (.fn F.laws_eqDataS [] [])) [(.t 6), (.t 8)], none⟩,
    ⟨(some 10), .not (.t 9), none⟩]) laws_eqProg_b6) laws_eqProg_b2)
def laws_eqProg_b0 : HCode :=
  (.seq (.reg [⟨(some 2), .box (.t 0), none⟩,
    ⟨(some 3), .box (.t 1), none⟩,
    ⟨(some 4), .mov (.c (.bool false)), none⟩]) laws_eqProg_b1)
def laws_eqProg : HFunc :=
  { np := 2, ntmps := 17, results := [(4, none)], body := laws_eqProg_b0 }
def spec_ArityOf_b3 : HCode :=
  (.seq (.reg [⟨(some 4), .mov (.c (.int .i64 (-1))), none⟩]) .ret)
def spec_ArityOf_b7 : HCode :=
  (.reg [⟨(some 18), .mov (.t 5), none⟩,
    ⟨(some 19), .bin .add (.t 18) (.c (.int .i64 1)), none⟩,
    ⟨(some 5), .mov (.t 19), none⟩])
def spec_ArityOf_b11 : HCode :=
  (.reg [⟨(some 29), .mov (.t 6), none⟩,
    ⟨(some 30), .bin .add (.t 29) (.c (.int .i64 1)), none⟩,
    ⟨(some 6), .mov (.t 30), none⟩])
def spec_ArityOf_b13 : HCode :=
  (.seq (.reg [⟨(some 43), .faddr 0 (.t 2), none⟩,
    ⟨(some 44), .load false 1 (.t 43), none⟩,
    ⟨(some 45), .mov (.t 5), none⟩,
    ⟨(some 46), .iaddr 2 (.t 44) (.t 45), none⟩,
    ⟨(some 47), .faddr 1 (.t 46), none⟩,
    ⟨(some 48), .load false 1 (.t 47), none⟩,
    ⟨(some 49), .mov (.t 6), none⟩,
    ⟨(some 50), .iaddr 2 (.t 48) (.t 49), none⟩,
    ⟨(some 51), .faddr 1 (.t 50), none⟩,
    ⟨(some 52), .load false 1 (.t 51), none⟩,
    ⟨(some 53), .len (.t 52), none⟩,
    ⟨(some 4), .mov (.t 53), none⟩]) .ret)
def spec_ArityOf_b12 : HCode :=
  (.cond (.t 42) spec_ArityOf_b13 .skip)
def spec_ArityOf_b10 : HCode :=
  (.seq (.block 3 (.seq (.reg [⟨(some 31), .faddr 0 (.t 2), none⟩,
    ⟨(some 32), .load false 1 (.t 31), none⟩,
    ⟨(some 33), .mov (.t 5), none⟩,
    ⟨(some 34), .iaddr 2 (.t 32) (.t 33), none⟩,
    ⟨(some 35), .faddr 1 (.t 34), none⟩,
    ⟨(some 36), .load false 1 (.t 35), none⟩,
    ⟨(some 37), .mov (.t 6), none⟩,
    ⟨(some 38), .iaddr 2 (.t 36) (.t 37), none⟩,
    ⟨(some 39), .faddr 0 (.t 38), none⟩,
    ⟨(some 40), .load false 1 (.t 39), none⟩,
    ⟨(some 41), .mov (.t 1), none⟩,
    ⟨(some 42), .bin .eql (.t 40) (.t 41), none⟩]) spec_ArityOf_b12)) spec_ArityOf_b11)
def spec_ArityOf_b14 : HCode :=
  (.cond (.t 28) .skip (.exit 2))
def spec_ArityOf_l9 : HCode :=
  (.seq (.seq (.reg [⟨(some 20), .mov (.t 6), none⟩,
    ⟨(some 21), .faddr 0 (.t 2), none⟩,
    ⟨(some 22), .load false 1 (.t 21), none⟩,
    ⟨(some 23), .mov (.t 5), none⟩,
    ⟨(some 24), .iaddr 2 (.t 22) (.t 23), none⟩,
    ⟨(some 25), .faddr 1 (.t 24), none⟩,
    ⟨(some 26), .load false 1 (.t 25), none⟩,
    ⟨(some 27), .len (.t 26), none⟩,
    ⟨(some 28), .bin .lss (.t 20) (.t 27), none⟩]) spec_ArityOf_b14) spec_ArityOf_b10)
def spec_ArityOf_b8 : HCode :=
  (.block 2 (.loop spec_ArityOf_l9))
def spec_ArityOf_b6 : HCode :=
  (.seq (.block 1 (.seq (.reg [⟨(some 6), .mov (.c (.int .i64 0)), none⟩]) spec_ArityOf_b8)) spec_ArityOf_b7)
def spec_ArityOf_b15 : HCode :=
  (.cond (.t 17) .skip (.exit 0))
def spec_ArityOf_l5 : HCode :=
  (.seq (.seq (.reg [⟨(some 13), .mov (.t 5), none⟩,
    ⟨(some 14), .faddr 0 (.t 2), none⟩,
    ⟨(some 15), .load false 1 (.t 14), none⟩,
    ⟨(some 16), .len (.t 15), none⟩,
    ⟨(some 17), .bin .lss (.t 13) (.t 16), none⟩]) spec_ArityOf_b15) spec_ArityOf_b6)
def spec_ArityOf_b4 : HCode :=
  (.block 0 (.loop spec_ArityOf_l5))
def spec_ArityOf_b2 : HCode :=
  (.seq (.seq (.reg [⟨(some 5), .mov (.c (.int .i64 0)), none⟩]) spec_ArityOf_b4) spec_ArityOf_b3)
def spec_ArityOf_b17 : HCode :=
  (.seq (.reg [⟨(some 4), .mov (.c (.int .i64 0)), none⟩]) .ret)
def spec_ArityOf_b16 : HCode :=
  (.cond (.t 12) spec_ArityOf_b17 .skip)
def spec_ArityOf_b1 : HCode :=
  (.seq (.seq (.reg [⟨(some 7), .mov (.t 1), none⟩,
    ⟨(some 8), .bin .eql (.t 7) (.c (.str ⟨⟨[84, 114, 117, 101]⟩⟩)), none⟩,
    ⟨(some 9), .mov (.t 8), none⟩,
    ⟨(some 10), .mov (.t 1), (some (9, false))⟩,
    ⟨(some 11), .bin .eql (.t 10) (.c (.str ⟨⟨[70, 97, 108, 115, 101]⟩⟩)), (some (9, false))⟩,
    ⟨(some 12), .pick (.t 9) (.c (.bool true)) (.t 11), none⟩]) spec_ArityOf_b16) spec_ArityOf_b2)
def spec_ArityOf_b0 : HCode :=
  (.seq (.reg [⟨(some 2), .box (.t 0), none⟩,
    ⟨(some 4), .mov (.c (.int .i64 0)), none⟩]) spec_ArityOf_b1)
def spec_ArityOf : HFunc :=
  { np := 2, ntmps := 54, results := [(4, none)], body := spec_ArityOf_b0 }
def laws_toTy_b6 : HCode :=
  (.seq (.reg [⟨(some 17), .load true 4 (.t 3), none⟩,
    ⟨none, .store 4 (.t 2) (.t 17), none⟩]) .ret)
def laws_toTy_b5 : HCode :=
  (.seq (.reg [⟨(some 13), .faddr 3 (.t 1), none⟩,
    ⟨(some 14), .load false 1 (.t 13), none⟩,
    ⟨(some 15), .call (.c (.fn F.laws_toTyS [] [])) [(.t 14)], none⟩,
    ⟨(some 16), .faddr 3 (.t 3), none⟩,
    ⟨none, .store 1 (.t 16) (.t 15), none⟩]) laws_toTy_b6)
def laws_toTy_b4 : HCode :=
  (.seq (.reg [⟨(some 10), .faddr 2 (.t 1), none⟩,
    ⟨(some 11), .load false 1 (.t 10), none⟩,
    ⟨(some 12), .faddr 2 (.t 3), none⟩,
    ⟨none, .store 1 (.t 12) (.t 11), none⟩]) laws_toTy_b5)
def laws_toTy_b3 : HCode :=
  (.seq (.reg [⟨(some 7), .faddr 1 (.t 1), none⟩,
    ⟨(some 8), .load false 1 (.t 7), none⟩,
    ⟨(some 9), .faddr 1 (.t 3), none⟩,
    ⟨none, .store 1 (.t 9) (.t 8), none⟩]) laws_toTy_b4)
def laws_toTy_b2 : HCode :=
  (.seq (.reg [⟨(some 4), .faddr 0 (.t 1), none⟩,
    ⟨(some 5), .load false 1 (.t 4), none⟩,
    ⟨(some 6), .faddr 0 (.t 3), none⟩,
    ⟨none, .store 1 (.t 6) (.t 5), none⟩]) laws_toTy_b3)
def laws_toTy_b1 : HCode :=
  (.seq (.reg [⟨(some 3), .alloc (.agg [(.int .i64 0), (.str ⟨⟨[]⟩⟩), (.int .i64 0), .nils]), none⟩]) laws_toTy_b2)
def laws_toTy_b0 : HCode :=
  (.seq (.reg [⟨(some 1), .box (.t 0), none⟩,
    ⟨(some 2), .alloc (.agg [(.int .i64 0), (.str ⟨⟨[]⟩⟩), (.int .i64 0), .nils]), none⟩]) laws_toTy_b1)
def laws_toTy : HFunc :=
  { np := 1, ntmps := 18, results := [(2, some (true, 4))], body := laws_toTy_b0 }
def laws_toTyS_b3 : HCode :=
  (.seq (.reg [⟨(some 22), .mov (.t 3), none⟩,
    ⟨(some 2), .mov (.t 22), none⟩]) .ret)
def laws_toTyS_b7 : HCode :=
  (.reg [⟨(some 12), .mov (.t 4), none⟩,
    ⟨(some 13), .bin .add (.t 12) (.c (.int .i64 1)), none⟩,
    ⟨(some 4), .mov (.t 13), none⟩])
def laws_toTyS_b6 : HCode :=
  (.seq (.block 1 (.reg [⟨(some 14), .mov (.t 3), none⟩,
    ⟨(some 15), .mov (.t 4), none⟩,
    ⟨(some 16), .mov (.t 0), none⟩,
    ⟨(some 17), .mov (.t 4), none⟩,
    ⟨(some 18), .iaddr 4 (.t 16) (.t 17), none⟩,
    ⟨(some 19), .load true 4 (.t 18), none⟩,
    ⟨(some 20), .call (.c (.fn F.laws_toTy [] [])) [(.t 19)], none⟩,
    ⟨(some 21), .iaddr 4 (.t 14) (.t 15), none⟩,
    ⟨none, .store 4 (.t 21) (.t 20), none⟩])) laws_toTyS_b7)
def laws_toTyS_b8 : HCode :=
  (.cond (.t 11) .skip (.exit 0))
def laws_toTyS_l5 : HCode :=
  (.seq (.seq (.reg [⟨(some 8), .mov (.t 4), none⟩,
    ⟨(some 9), .mov (.t 0), none⟩,
    ⟨(some 10), .len (.t 9), none⟩,
    ⟨(some 11), .bin .lss (.t 8) (.t 10), none⟩]) laws_toTyS_b8) laws_toTyS_b6)
def laws_toTyS_b4 : HCode :=
  (.block 0 (.loop laws_toTyS_l5))
def laws_toTyS_b2 : HCode :=
  (.seq (.seq (.reg [⟨(some 4), .mov (.c (.int .i64 0)), none⟩]) laws_toTyS_b4) laws_toTyS_b3)
def laws_toTyS_b1 : HCode :=
  (.seq (.reg [⟨(some 5), .mov (.t 0), none⟩,
    ⟨(some 6), .len (.t 5), none⟩,
    ⟨(some 7), .mkslice 4 56 (.agg [(.int .i64 0), (.str ⟨⟨[]⟩⟩), (.int .i64 0), .nils]) (.t 6) (.t 6), none⟩,
    ⟨(some 3), .mov (.t 7), none⟩]) laws_toTyS_b2)
def laws_toTyS_b0 : HCode :=
  (.seq (.reg [⟨(some 2), .mov (.c .nils), none⟩]) laws_toTyS_b1)
def laws_toTyS : HFunc :=
  { np := 1, ntmps := 23, results := [(2, none)], body := laws_toTyS_b0 }
def laws_toCon_b4 : HCode :=
  (.seq (.reg [⟨(some 11), .load true 2 (.t 3), none⟩,
    ⟨none, .store 2 (.t 2) (.t 11), none⟩]) .ret)
def laws_toCon_b3 : HCode :=
  (.seq (.reg [⟨(some 7), .faddr 1 (.t 1), none⟩,
    ⟨(some 8), .load false 1 (.t 7), none⟩,
    ⟨(some 9), .call (.c (.fn F.laws_toTyS [] [])) [(.t 8)], none⟩,
    ⟨(some 10), .faddr 1 (.t 3), none⟩,
    ⟨none, .store 1 (.t 10) (.t 9), none⟩]) laws_toCon_b4)
def laws_toCon_b2 : HCode :=
  (.seq (.reg [⟨(some 4), .faddr 0 (.t 1), none⟩,
    ⟨(some 5), .load false 1 (.t 4), none⟩,
    ⟨(some 6), .faddr 0 (.t 3), none⟩,
    ⟨none, .store 1 (.t 6) (.t 5), none⟩]) laws_toCon_b3)
def laws_toCon_b1 : HCode :=
  (.seq (.reg [⟨(some 3), .alloc (.agg [(.str ⟨⟨[]⟩⟩), .nils]), none⟩]) laws_toCon_b2)
def laws_toCon_b0 : HCode :=
  (.seq (.reg [⟨(some 1), .box (.t 0), none⟩,
    ⟨(some 2), .alloc (.agg [(.str ⟨⟨[]⟩⟩), .nils]), none⟩]) laws_toCon_b1)
def laws_toCon : HFunc :=
  { np := 1, ntmps := 12, results := [(2, some (true, 2))], body := laws_toCon_b0 }
def laws_toConS_b3 : HCode :=
  (.seq (.reg [⟨(some 22), .mov (.t 3), none⟩,
    ⟨(some 2), .mov (.t 22), none⟩]) .ret)
def laws_toConS_b7 : HCode :=
  (.reg [⟨(some 12), .mov (.t 4), none⟩,
    ⟨(some 13), .bin .add (.t 12) (.c (.int .i64 1)), none⟩,
    ⟨(some 4), .mov (.t 13), none⟩])
def laws_toConS_b6 : HCode :=
  (.seq (.block 1 (.reg [⟨(some 14), .mov (.t 3), none⟩,
    ⟨(some 15), .mov (.t 4), none⟩,
    ⟨(some 16), .mov (.t 0), none⟩,
    ⟨(some 17), .mov (.t 4), none⟩,
    ⟨(some 18), .iaddr 2 (.t 16) (.t 17), none⟩,
    ⟨(some 19), .load true 2 (.t 18), none⟩,
    ⟨(some 20), .call (.c (.fn F.laws_toCon [] [])) [(.t 19)], none⟩,
    ⟨(some 21), .iaddr 2 (.t 14) (.t 15), none⟩,
    ⟨none, .store 2 (.t 21) (.t 20), none⟩])) laws_toConS_b7)
def laws_toConS_b8 : HCode :=
  (.cond (.t 11) .skip (.exit 0))
def laws_toConS_l5 : HCode :=
  (.seq (.seq (.reg [⟨(some 8), .mov (.t 4), none⟩,
    ⟨(some 9), .mov (.t 0), none⟩,
    ⟨(some 10), .len (.t 9), none⟩,
    ⟨(some 11), .bin .lss (.t 8) (.t 10), none⟩]) laws_toConS_b8) laws_toConS_b6)
def laws_toConS_b4 : HCode :=
  (.block 0 (.loop laws_toConS_l5))
def laws_toConS_b2 : HCode :=
  (.seq (.seq (.reg [⟨(some 4), .mov (.c (.int .i64 0)), none⟩]) laws_toConS_b4) laws_toConS_b3)
def laws_toConS_b1 : HCode :=
  (.seq (.reg [⟨(some 5), .mov (.t 0), none⟩,
    ⟨(some 6), .len (.t 5), none⟩,
    ⟨(some 7), .mkslice 2 40 (.agg [(.str ⟨⟨[]⟩⟩), .nils]) (.t 6) (.t 6), none⟩,
    ⟨(some 3), .mov (.t 7), none⟩]) laws_toConS_b2)
def laws_toConS_b0 : HCode :=
  (.seq (.reg [⟨(some 2), .mov (.c .nils), none⟩]) laws_toConS_b1)
def laws_toConS : HFunc :=
  { np := 1, ntmps := 23, results := [(2, none)], body := laws_toConS_b0 }
def laws_toData_b4 : HCode :=
  (.seq (.reg [⟨(some 11), .load true 2 (.t 3), none⟩,
    ⟨none, .store 2 (.t 2) (.t 11), none⟩]) .ret)
def laws_toData_b3 : HCode :=
  (.seq (.reg [⟨(some 7), .faddr 1 (.t 1), none⟩,
    ⟨(some 8), .load false 1 (.t 7), none⟩,
    ⟨(some 9), .call (.c (.fn F.laws_toConS [] [])) [(.t 8)], none⟩,
    ⟨(some 10), .faddr 1 (.t 3), none⟩,
    ⟨none, .store 1 (.t 10) (.t 9), none⟩]) laws_toData_b4)
def laws_toData_b2 : HCode :=
  (.seq (.reg [⟨(some 4), .faddr 0 (.t 1), none⟩,
    ⟨(some 5), .load false 1 (.t 4), none⟩,
    ⟨(some 6), .faddr 0 (.t 3), none⟩,
    ⟨none, .store 1 (.t 6) (.t 5), none⟩]) laws_toData_b3)
def laws_toData_b1 : HCode :=
  (.seq (.reg [⟨(some 3), .alloc (.agg [(.str ⟨⟨[]⟩⟩), .nils]), none⟩]) laws_toData_b2)
def laws_toData_b0 : HCode :=
  (.seq (.reg [⟨(some 1), .box (.t 0), none⟩,
    ⟨(some 2), .alloc (.agg [(.str ⟨⟨[]⟩⟩), .nils]), none⟩]) laws_toData_b1)
def laws_toData : HFunc :=
  { np := 1, ntmps := 12, results := [(2, some (true, 2))], body := laws_toData_b0 }
def laws_toDataS_b3 : HCode :=
  (.seq (.reg [⟨(some 22), .mov (.t 3), none⟩,
    ⟨(some 2), .mov (.t 22), none⟩]) .ret)
def laws_toDataS_b7 : HCode :=
  (.reg [⟨(some 12), .mov (.t 4), none⟩,
    ⟨(some 13), .bin .add (.t 12) (.c (.int .i64 1)), none⟩,
    ⟨(some 4), .mov (.t 13), none⟩])
def laws_toDataS_b6 : HCode :=
  (.seq (.block 1 (.reg [⟨(some 14), .mov (.t 3), none⟩,
    ⟨(some 15), .mov (.t 4), none⟩,
    ⟨(some 16), .mov (.t 0), none⟩,
    ⟨(some 17), .mov (.t 4), none⟩,
    ⟨(some 18), .iaddr 2 (.t 16) (.t 17), none⟩,
    ⟨(some 19), .load true 2 (.t 18), none⟩,
    ⟨(some 20), .call (.c (.fn F.laws_toData [] [])) [(.t 19)], none⟩,
    ⟨(some 21), .iaddr 2 (.t 14) (.t 15), none⟩,
    ⟨none, .store 2 (.t 21) (.t 20), none⟩])) laws_toDataS_b7)
def laws_toDataS_b8 : HCode :=
  (.cond (.t 11) .skip (.exit 0))
def laws_toDataS_l5 : HCode :=
  (.seq (.seq (.reg [⟨(some 8), .mov (.t 4), none⟩,
    ⟨(some 9), .mov (.t 0), none⟩,
    ⟨(some 10), .len (.t 9), none⟩,
    ⟨(some 11), .bin .lss (.t 8) (.t 10), none⟩]) laws_toDataS_b8) laws_toDataS_b6)
def laws_toDataS_b4 : HCode :=
  (.block 0 (.loop laws_toDataS_l5))
def laws_toDataS_b2 : HCode :=
  (.seq (.seq (.reg [⟨(some 4), .mov (.c (.int .i64 0)), none⟩]) laws_toDataS_b4) laws_toDataS_b3)
def laws_toDataS_b1 : HCode :=
  (.seq (.reg [⟨(some 5), .mov (.t 0), none⟩,
    ⟨(some 6), .len (.t 5), none⟩,
    ⟨(some 7), .mkslice 2 40 (.agg [(.str ⟨⟨[]⟩⟩), .nils]) (.t 6) (.t 6), none⟩,
    ⟨(some 3), .mov (.t 7), none⟩]) laws_toDataS_b2)
def laws_toDataS_b0 : HCode :=
  (.seq (.reg [⟨(some 2), .mov (.c .nils), none⟩]) laws_toDataS_b1)
def laws_toDataS : HFunc :=
  { np := 1, ntmps := 23, results := [(2, none)], body := laws_toDataS_b0 }
def laws_toStringS_b3 : HCode :=
  (.seq (.reg [⟨(some 21), .mov (.t 3), none⟩,
    ⟨(some 2), .mov (.t 21), none⟩]) .ret)
def laws_toStringS_b7 : HCode :=
  (.reg [⟨(some 12), .mov (.t 4), none⟩,
    ⟨(some 13), .bin .add (.t 12) (.c (.int .i64 1)), none⟩,
    ⟨(some 4), .mov (.t 13), none⟩])
def laws_toStringS_b6 : HCode :=
  (.seq (.block 1 (.reg [⟨(some 14), .mov (.t 3), none⟩,
    ⟨(some 15), .mov (.t 4), none⟩,
    ⟨(some 16), .mov (.t 0), none⟩,
    ⟨(some 17), .mov (.t 4), none⟩,
    ⟨(some 18), .iaddr 1 (.t 16) (.t 17), none⟩,
    ⟨(some 19), .load false 1 (.t 18), none⟩,
    ⟨(some 20), .iaddr 1 (.t 14) (.t 15), none⟩,
    ⟨none, .store 1 (.t 20) (.t 19), none⟩])) laws_toStringS_b7)
def laws_toStringS_b8 : HCode :=
  (.cond (.t 11) .skip (.exit 0))
def laws_toStringS_l5 : HCode :=
  (.seq (.seq (.reg [⟨(some 8), .mov (.t 4), none⟩,
    ⟨(some 9), .mov (.t 0), none⟩,
    ⟨(some 10), .len (.t 9), none⟩,
    ⟨(some 11), .bin .lss (.t 8) (.t 10), none⟩]) laws_toStringS_b8) laws_toStringS_b6)
def laws_toStringS_b4 : HCode :=
  (.block 0 (.loop laws_toStringS_l5))
def laws_toStringS_b2 : HCode :=
  (.seq (.seq (.reg [⟨(some 4), .mov (.c (.int .i64 0)), none⟩]) laws_toStringS_b4) laws_toStringS_b3)
def laws_toStringS_b1 : HCode :=
  (.seq (.reg [⟨(some 5), .mov (.t 0), none⟩,
    ⟨(some 6), .len (.t 5), none⟩,
    ⟨(some 7), .mkslice 1 16 (.str ⟨⟨[]⟩⟩) (.t 6) (.t 6), none⟩,
    ⟨(some 3), .mov (.t 7), none⟩]) laws_toStringS_b2)
def laws_toStringS_b0 : HCode :=
  (.seq (.reg [⟨(some 2), .mov (.c .nils), none⟩]) laws_toStringS_b1)
def laws_toStringS : HFunc :=
  { np := 1, ntmps := 22, results := [(2, none)], body := laws_toStringS_b0 }
def laws_toAlt_b5 : HCode :=
  (.seq (.reg [⟨(some 15), .load true 8 (.t 3), none⟩,
    ⟨none, .store 8 (.t 2) (.t 15), none⟩]) .ret)
def laws_toAlt_b4 : HCode :=
  (.seq (.reg [⟨(some 11), .faddr 2 (.t 1), none⟩,
    ⟨(some 12), .load true 6 (.t 11), none⟩,
    ⟨(some 13), .call (.c (.fn F.laws_toExp [] [])) [(.t 12)], none⟩,
    ⟨(some 14), .faddr 2 (.t 3), none⟩,
    ⟨none, .store 6 (.t 14) (.t 13), none⟩]) laws_toAlt_b5)
def laws_toAlt_b3 : HCode :=
  (.seq (.reg [⟨(some 7), .faddr 1 (.t 1), none⟩,
    ⟨(some 8), .load false 1 (.t 7), none⟩,
    ⟨(some 9), .call (.c (.fn F.laws_toStringS [] [])) [(.t 8)], none⟩,
    ⟨(some 10), .faddr 1 (.t 3), none⟩,
    ⟨none, .store 1 (.t 10) (.t 9), none⟩]) laws_toAlt_b4)
def laws_toAlt_b2 : HCode :=
  (.seq (.reg [⟨(some 4), .faddr 0 (.t 1), none⟩,
    ⟨(some 5), .load false 1 (.t 4), none⟩,
    ⟨(some 6), .faddr 0 (.t 3), none⟩,
    ⟨none, .store 1 (.t 6) (.t 5), none⟩]) laws_toAlt_b3)
def laws_toAlt_b1 : HCode :=
  (.seq (.reg [⟨(some 3), .alloc (.agg [(.str ⟨⟨[]⟩⟩), .nils, (.int .i64 0), (.str ⟨⟨[]⟩⟩), (.int .i64 0), .nils, .nils, .nils]), none⟩]) laws_toAlt_b2)
def laws_toAlt_b0 : HCode :=
  (.seq (.reg [⟨(some 1), .box (.t 0), none⟩,
    ⟨(some 2), .alloc (.agg [(.str ⟨⟨[]⟩⟩), .nils, (.int .i64 0), (.str ⟨⟨[]⟩⟩), (.int .i64 0), .nils, .nils, .nils]), none⟩]) laws_toAlt_b1)
def laws_toAlt : HFunc :=
  { np := 1, ntmps := 16, results := [(2, some (true, 8))], body := laws_toAlt_b0 }
def laws_toAltS_b3 : HCode :=
  (.seq (.reg [⟨(some 22), .mov (.t 3), none⟩,
    ⟨(some 2), .mov (.t 22), none⟩]) .ret)
def laws_toAltS_b7 : HCode :=
  (.reg [⟨(some 12), .mov (.t 4), none⟩,
    ⟨(some 13), .bin .add (.t 12) (.c (.int .i64 1)), none⟩,
    ⟨(some 4), .mov (.t 13), none⟩])
def laws_toAltS_b6 : HCode :=
  (.seq (.block 1 (.reg [⟨(some 14), .mov (.t 3), none⟩,
    ⟨(some 15), .mov (.t 4), none⟩,
    ⟨(some 16), .mov (.t 0), none⟩,
    ⟨(some 17), .mov (.t 4), none⟩,
    ⟨(some 18), .iaddr 8 (.t 16) (.t 17), none⟩,
    ⟨(some 19), .load true 8 (.t 18), none⟩,
    ⟨(some 20), .call (.c (.fn F.laws_toAlt [] [])) [(.t 19)], none⟩,
    ⟨(some 21), .iaddr 8 (.t 14) (.t 15), none⟩,
    ⟨none, .store 8 (.t 21) (.t 20), none⟩])) laws_toAltS_b7)
def laws_toAltS_b8 : HCode :=
  (.cond (.t 11) .skip (.exit 0))
def laws_toAltS_l5 : HCode :=
  (.seq (.seq (.reg [⟨(some 8), .mov (.t 4), none⟩,
    ⟨(some 9), .mov (.t 0), none⟩,
    ⟨(some 10), .len (.t 9), none⟩,
    ⟨(some 11), .bin .lss (.t 8) (.t 10), none⟩]) laws_toAltS_b8) laws_toAltS_b6)
def laws_toAltS_b4 : HCode :=
  (.block 0 (.loop laws_toAltS_l5))
def laws_toAltS_b2 : HCode :=
  (.seq (.seq (.reg [⟨(some 4), .mov (.c (.int .i64 0)), none⟩]) laws_toAltS_b4) laws_toAltS_b3)
def laws_toAltS_b1 : HCode :=
  (.seq (.reg [⟨(some 5), .mov (.t 0), none⟩,
    ⟨(some 6), .len (.t 5), none⟩,
    ⟨(some 7), .mkslice 8 144 (.agg [(.str ⟨⟨[]⟩⟩), .nils, (.int .i64 0), (.str ⟨⟨[]⟩⟩), (.int .i64 0), .nils, .nils, .nils]) (.t 6) (.t 6), none⟩,
    ⟨(some 3), .mov (.t 7), none⟩]) laws_toAltS_b2)
def laws_toAltS_b0 : HCode :=
  (.seq (.reg [⟨(some 2), .mov (.c .nils), none⟩]) laws_toAltS_b1)
def laws_toAltS : HFunc :=
  { np := 1, ntmps := 23, results := [(2, none)], body := laws_toAltS_b0 }
def laws_toDec_b6 : HCode :=
  (.seq (.reg [⟨(some 19), .load true 9 (.t 3), none⟩,
    ⟨none, .store 9 (.t 2) (.t 19), none⟩]) .ret)
def laws_toDec_b5 : HCode :=
  (.seq (.reg [⟨(some 15), .faddr 8 (.t 1), none⟩,
    ⟨(some 16), .load false 1 (.t 15), none⟩,
    ⟨(some 17), .call (.c (.fn F.laws_toDecS [] [])) [(.t 16)], none⟩,
    ⟨(some 18), .faddr 8 (.t 3), none⟩,
    ⟨none, .store 1 (.t 18) (.t 17), none⟩]) laws_toDec_b6)
def laws_toDec_b4 : HCode :=
  (.seq (.reg [⟨(some 11), .faddr 2 (.t 1), none⟩,
    ⟨(some 12), .load true 6 (.t 11), none⟩,
    ⟨(some 13), .call (.c (.fn F.laws_toExp [] [])) [(.t 12)], none⟩,
    ⟨(some 14), .faddr 2 (.t 3), none⟩,
    ⟨none, .store 6 (.t 14) (.t 13), none⟩]) laws_toDec_b5)
def laws_toDec_b3 : HCode :=
  (.seq (.reg [⟨(some 7), .faddr 1 (.t 1), none⟩,
    ⟨(some 8), .load false 1 (.t 7), none⟩,
    ⟨(some 9), .call (.c (.fn F.laws_toStringS [] [])) [(.t 8)], none⟩,
    ⟨(some 10), .faddr 1 (.t 3), none⟩,
    ⟨none, .store 1 (.t 10) (.t 9), none⟩]) laws_toDec_b4)
def laws_toDec_b2 : HCode :=
  (.seq (.reg [⟨(some 4), .faddr 0 (.t 1), none⟩,
    ⟨(some 5), .load false 1 (.t 4), none⟩,
    ⟨(some 6), .faddr 0 (.t 3), none⟩,
    ⟨none, .store 1 (.t 6) (.t 5), none⟩]) laws_toDec_b3)
def laws_toDec_b1 : HCode :=
  (.seq (.reg [⟨(some 3), .alloc (.agg [(.str ⟨⟨[]⟩⟩), .nils, (.int .i64 0), (.str ⟨⟨[]⟩⟩), (.int .i64 0), .nils, .nils, .nils, .nils]), none⟩]) laws_toDec_b2)
def laws_toDec_b0 : HCode :=
  (.seq (.reg [⟨(some 1), .box (.t 0), none⟩,
    ⟨(some 2), .alloc (.agg [(.str ⟨⟨[]⟩⟩), .nils, (.int .i64 0), (.str ⟨⟨[]⟩⟩), (.int .i64 0), .nils, .nils, .nils, .nils]), none⟩]) laws_toDec_b1)
def laws_toDec : HFunc :=
  { np := 1, ntmps := 20, results := [(2, some (true, 9))], body := laws_toDec_b0 }
def laws_toDecS_b3 : HCode :=
  (.seq (.reg [⟨(some 22), .mov (.t 3), none⟩,
    ⟨(some 2), .mov (.t 22), none⟩]) .ret)
def laws_toDecS_b7 : HCode :=
  (.reg [⟨(some 12), .mov (.t 4), none⟩,
    ⟨(some 13), .bin .add (.t 12) (.c (.int .i64 1)), none⟩,
    ⟨(some 4), .mov (.t 13), none⟩])
def laws_toDecS_b6 : HCode :=
  (.seq (.block 1 (.reg [⟨(some 14), .mov (.t 3), none⟩,
    ⟨(some 15), .mov (.t 4), none⟩,
    ⟨(some 16), .mov (.t 0), none⟩,
    ⟨(some 17), .mov (.t 4), none⟩,
    ⟨(some 18), .iaddr 9 (.t 16) (.t 17), none⟩,
    ⟨(some 19), .load true 9 (.t 18), none⟩,
    ⟨(some 20), .call (.c (.fn F.laws_toDec [] [])) [(.t 19)], none⟩,
    ⟨(some 21), .iaddr 9 (.t 14) (.t 15), none⟩,
    ⟨none, .store 9 (.t 21) (.t 20), none⟩])) laws_toDecS_b7)
def laws_toDecS_b8 : HCode :=
  (.cond (.t 11) .skip (.exit 0))
def laws_toDecS_l5 : HCode :=
  (.seq (.seq (.reg [⟨(some 8), .mov (.t 4), none⟩,
    ⟨(some 9), .mov (.t 0), none⟩,
    ⟨(some 10), .len (.t 9), none⟩,
    ⟨(some 11), .bin .lss (.t 8) (.t 10), none⟩]) laws_toDecS_b8) laws_toDecS_b6)
def laws_toDecS_b4 : HCode :=
  (.block 0 (.loop laws_toDecS_l5))
def laws_toDecS_b2 : HCode :=
  (.seq (.seq (.reg [⟨(some 4), .mov (.c (.int .i64 0)), none⟩]) laws_toDecS_b4) laws_toDecS_b3)
def laws_toDecS_b1 : HCode :=
  (.seq (.reg [⟨(some 5), .mov (.t 0), none⟩,
    ⟨(some 6), .len (.t 5), none⟩,
    ⟨(some 7), .mkslice 9 168 (.agg [(.str ⟨⟨[]⟩⟩), .nils, (.int .i64 0), (.str ⟨⟨[]⟩⟩), (.int .i64 0), .nils, .nils, .nils, .nils]) (.t 6) (.t 6), none⟩,
    ⟨(some 3), .mov (.t 7), none⟩]) laws_toDecS_b2)
def laws_toDecS_b0 : HCode :=
  (.seq (.reg [⟨(some 2), .mov (.c .nils), none⟩]) laws_toDecS_b1)
def laws_toDecS : HFunc :=
  { np := 1, ntmps := 23, results := [(2, none)], body := laws_toDecS_b0 }
def laws_toExp_b8 : HCode :=
  (.seq (.reg [⟨(some 25), .load true 6 (.t 3), none⟩,
    ⟨none, .store 6 (.t 2) (.t 25), none⟩]) .ret)
def laws_toExp_b7 : HCode :=
  (.seq (.reg [⟨(some 21), .faddr 5 (.t 1), none⟩,
    ⟨(some 22), .load false 1 (.t 21), none⟩,
    ⟨(some 23), .call (.c (.fn F.laws_toAltS [] [])) [(.t 22)], none⟩,
    ⟨(some 24), .faddr 5 (.t 3), none⟩,
    ⟨none, .store 1 (.t 24) (.t 23), none⟩]) laws_toExp_b8)
def laws_toExp_b6 : HCode :=
  (.seq (.reg [⟨(some 17), .faddr 4 (.t 1), none⟩,
    ⟨(some 18), .load false 1 (.t 17), none⟩,
    ⟨(some 19), .call (.c (.fn F.laws_toDecS [] [])) [(.t 18)], none⟩,
    ⟨(some 20), .faddr 4 (.t 3), none⟩,
    ⟨none, .store 1 (.t 20) (.t 19), none⟩]) laws_toExp_b7)
def laws_toExp_b5 : HCode :=
  (.seq (.reg [⟨(some 13), .faddr 3 (.t 1), none⟩,
    ⟨(some 14), .load false 1 (.t 13), none⟩,
    ⟨(some 15), .call (.c (.fn F.laws_toExpS [] [])) [(.t 14)], none⟩,
    ⟨(some 16), .faddr 3 (.t 3), none⟩,
    ⟨none, .store 1 (.t 16) (.t 15), none⟩]) laws_toExp_b6)
def laws_toExp_b4 : HCode :=
  (.seq (.reg [⟨(some 10), .faddr 2 (.t 1), none⟩,
    ⟨(some 11), .load false 1 (.t 10), none⟩,
    ⟨(some 12), .faddr 2 (.t 3), none⟩,
    ⟨none, .store 1 (.t 12) (.t 11), none⟩]) laws_toExp_b5)
def laws_toExp_b3 : HCode :=
  (.seq (.reg [⟨(some 7), .faddr 1 (.t 1), none⟩,
    ⟨(some 8), .load false 1 (.t 7), none⟩,
    ⟨(some 9), .faddr 1 (.t 3), none⟩,
    ⟨none, .store 1 (.t 9) (.t 8), none⟩]) laws_toExp_b4)
def laws_toExp_b2 : HCode :=
  (.seq (.reg [⟨(some 4), .faddr 0 (.t 1), none⟩,
    ⟨(some 5), .load false 1 (.t 4), none⟩,
    ⟨(some 6), .faddr 0 (.t 3), none⟩,
    ⟨none, .store 1 (.t 6) (.t 5), none⟩]) laws_toExp_b3)
def laws_toExp_b1 : HCode :=
  (.seq (.reg [⟨(some 3), .alloc (.agg [(.int .i64 0), (.str ⟨⟨[]⟩⟩), (.int .i64 0), .nils, .nils, .nils]), none⟩]) laws_toExp_b2)
def laws_toExp_b0 : HCode :=
  (.seq (.reg [⟨(some 1), .box (.t 0), none⟩,
    ⟨(some 2), .alloc (.agg [(.int .i64 0), (.str ⟨⟨[]⟩⟩), (.int .i64 0), .nils, .nils, .nils]), none⟩]) laws_toExp_b1)
def laws_toExp : HFunc :=
  { np := 1, ntmps := 26, results := [(2, some (true, 6))], body := laws_toExp_b0 }
def laws_toExpS_b3 : HCode :=
  (.seq (.reg [⟨(some 22), .mov (.t 3), none⟩,
    ⟨(some 2), .mov (.t 22), none⟩]) .ret)
def laws_toExpS_b7 : HCode :=
  (.reg [⟨(some 12), .mov (.t 4), none⟩,
    ⟨(some 13), .bin .add (.t 12) (.c (.int .i64 1)), none⟩,
    ⟨(some 4), .mov (.t 13), none⟩])
def laws_toExpS_b6 : HCode :=
  (.seq (.block 1 (.reg [⟨(some 14), .mov (.t 3), none⟩,
    ⟨(some 15), .mov (.t 4), none⟩,
    ⟨(some 16), .mov (.t 0), none⟩,
    ⟨(some 17), .mov (.t 4), none⟩,
    ⟨(some 18), .iaddr 6 (.t 16) (.t 17), none⟩,
    ⟨(some 19), .load true 6 (.t 18), none⟩,
    ⟨(some 20), .call (.c (.fn F.laws_toExp [] [])) [(.t 19)], none⟩,
    ⟨(some 21), .iaddr 6 (.t 14) (.t 15), none⟩,
    ⟨none, .store 6 (.t 21) (.t 20), none⟩])) laws_toExpS_b7)
def laws_toExpS_b8 : HCode :=
  (.cond (.t 11) .skip (.exit 0))
def laws_toExpS_l5 : HCode :=
  (.seq (.seq (.reg [⟨(some 8), .mov (.t 4), none⟩,
    ⟨(some 9), .mov (.t 0), none⟩,
    ⟨(some 10), .len (.t 9), none⟩,
    ⟨(some 11), .bin .lss (.t 8) (.t 10), none⟩]) laws_toExpS_b8) laws_toExpS_b6)
def laws_toExpS_b4 : HCode :=
  (.block 0 (.loop laws_toExpS_l5))
def laws_toExpS_b2 : HCode :=
  (.seq (.seq (.reg [⟨(some 4), .mov (.c (.int .i64 0)), none⟩]) laws_toExpS_b4) laws_toExpS_b3)
def laws_toExpS_b1 : HCode :=
  (.seq (.reg [⟨(some 5), .mov (.t 0), none⟩,
    ⟨(some 6), .len (.t 5), none⟩,
    ⟨(some 7), .mkslice 6 104 (.agg [(.int .i64 0), (.str ⟨⟨[]⟩⟩), (.int .i64 0), .nils, .nils, .nils]) (.t 6) (.t 6), none⟩,
    ⟨(some 3), .mov (.t 7), none⟩]) laws_toExpS_b2)
def laws_toExpS_b0 : HCode :=
  (.seq (.reg [⟨(some 2), .mov (.c .nils), none⟩]) laws_toExpS_b1)
def laws_toExpS : HFunc :=
  { np := 1, ntmps := 23, results := [(2, none)], body := laws_toExpS_b0 }
def laws_toProg_b4 : HCode :=
  (.seq (.reg [⟨(some 12), .load true 2 (.t 3), none⟩,
    ⟨none, .store 2 (.t 2) (.t 12), none⟩]) .ret)
def laws_toProg_b3 : HCode :=
  (.seq (.reg [⟨(some 8), .faddr 1 (.t 1), none⟩,
    ⟨(some 9), .load false 1 (.t 8), none⟩,
    ⟨(some 10), .call (.c (.fn F.laws_toDecS [] [])) [(.t 9)], none⟩,
    ⟨(some 11), .faddr 1 (.t 3), none⟩,
    ⟨none, .store 1 (.t 11) (.t 10), none⟩]) laws_toProg_b4)
def laws_toProg_b2 : HCode :=
  (.seq (.reg [⟨(some 4), .faddr 0 (.t 1), none⟩,
    ⟨(some 5), .load false 1 (.t 4), none⟩,
    ⟨(some 6), .call (.c (.fn F.laws_toDataS [] [])) [(.t 5)], none⟩,
    ⟨(some 7), .faddr 0 (.t 3), none⟩,
    ⟨none, .store 1 (.t 7) (.t 6), none⟩]) laws_toProg_b3)
def laws_toProg_b1 : HCode :=
  (.seq (.reg [⟨(some 3), .alloc (.agg [.nils, .nils]), none⟩]) laws_toProg_b2)
def laws_toProg_b0 : HCode :=
  (.seq (.reg [⟨(some 1), .box (.t 0), none⟩,
    ⟨(some 2), .alloc (.agg [.nils, .nils]), none⟩]) laws_toProg_b1)
def laws_toProg : HFunc :=
  { np := 1, ntmps := 13, results := [(2, some (true, 2))], body := laws_toProg_b0 }
def laws_szTy_b5 : HCode :=
  (.seq (.reg [⟨(some 18), .mov (.t 1), none⟩,
    ⟨(some 4), .mov (.t 18), none⟩]) .ret)
def laws_szTy_b7 : HCode :=
  (.seq (.reg [⟨(some 4), .mov (.c (.int .i64 (-1))), none⟩]) .ret)
def laws_szTy_b6 : HCode :=
  (.cond (.t 17) laws_szTy_b7 .skip)
def laws_szTy_b4 : HCode :=
  (.seq (.seq (.reg [⟨(some 16), .mov (.t 1), none⟩,
    ⟨(some 17), .bin .lss (.t 16) (.c (.int .i64 0)), none⟩]) laws_szTy_b6) laws_szTy_b5)
def laws_szTy_b3 : HCode :=
  (.seq (.reg [⟨(some 12), .faddr 3 (.t 2), none⟩,
    ⟨(some 13), .load false 1 (.t 12), none⟩,
    ⟨(some 14), .mov (.t 1), none⟩,
    ⟨(some 15), .call (.c (.fn F.laws_szTyS [] [])) [(.t 13), (.t 14)], none⟩,
    ⟨(some 1), .mov (.t 15), none⟩]) laws_szTy_b4)
def laws_szTy_b9 : HCode :=
  (.seq (.reg [⟨(some 4), .mov (.c (.int .i64 (-1))), none⟩]) .ret)
def laws_szTy_b8 : HCode :=
  (.cond (.t 11) laws_szTy_b9 .skip)
def laws_szTy_b2 : HCode :=
  (.seq (.seq (.reg [⟨(some 10), .mov (.t 1), none⟩,
    ⟨(some 11), .bin .lss (.t 10) (.c (.int .i64 0)), none⟩]) laws_szTy_b8) laws_szTy_b3)
def laws_szTy_b1 : HCode :=
  (.seq (.reg [⟨(some 5), .mov (.t 1), none⟩,
    ⟨(some 6), .faddr 1 (.t 2), none⟩,
    ⟨(some 7), .load false 1 (.t 6), none⟩,
    ⟨(some 8), .slen (.t 7), none⟩,
    ⟨(some 9), .bin .sub (.t 5) (.t 8), none⟩,
    ⟨(some 1), .mov (.t 9), none⟩]) laws_szTy_b2)
def laws_szTy_b0 : HCode :=
  (.seq (.reg [⟨(some 2), .box (.t 0), none⟩,
    ⟨(some 4), .mov (.c (.int .i64 0)), none⟩]) laws_szTy_b1)
def laws_szTy : HFunc :=
  { np := 2, ntmps := 19, results := [(4, none)], body := laws_szTy_b0 }
def laws_szTyS_b4 : HCode :=
  (.seq (.reg [⟨(some 26), .mov (.t 1), none⟩,
    ⟨(some 4), .mov (.t 26), none⟩]) .ret)
def laws_szTyS_b8 : HCode :=
  (.reg [⟨(some 16), .mov (.t 5), none⟩,
    ⟨(some 17), .bin .add (.t 16) (.c (.int .i64 1)), none⟩,
    ⟨(some 5), .mov (.t 17), none⟩])
def laws_szTyS_b11 : HCode :=
  (.seq (.reg [⟨(some 4), .mov (.c (.int .i64 (-1))), none⟩]) .ret)
def laws_szTyS_b10 : HCode :=
  (.cond (.t 25) laws_szTyS_b11 .skip)
def laws_szTyS_b9 : HCode :=
  (.seq (.reg [⟨(some 24), .mov (.t 1), none⟩,
    ⟨(some 25), .bin .lss (.t 24) (.c (.int .i64 0)), none⟩]) laws_szTyS_b10)
def laws_szTyS_b7 : HCode :=
  (.seq (.block 1 (.seq (.reg [⟨(some 18), .mov (.t 0), none⟩,
    ⟨(some 19), .mov (.t 5), none⟩,
    ⟨(some 20), .iaddr 4 (.t 18) (.t 19), none⟩,
    ⟨(some 21), .load true 4 (.t 20), none⟩,
    ⟨(some 22), .mov (.t 1), none⟩,
    ⟨(some 23), .call (.c (.fn F.laws_szTy [] [])) [(.t 21), (.t 22)], none⟩,
    ⟨(some 1), .mov (.t 23), none⟩]) laws_szTyS_b9)) laws_szTyS_b8)
def laws_szTyS_b12 : HCode :=
  (.cond (.t 15) .skip (.exit 0))
def laws_szTyS_l6 : HCode :=
  (.seq (.seq (.reg [⟨(some 12), .mov (.t 5), none⟩,
    ⟨(some 13), .mov (.t 0), none⟩,
    ⟨(some 14), .len (.t 13), none⟩,
    ⟨(some 15), .bin .lss (.t 12) (.t 14), none⟩]) laws_szTyS_b12) laws_szTyS_b7)
def laws_szTyS_b5 : HCode :=
  (.block 0 (.loop laws_szTyS_l6))
def laws_szTyS_b3 : HCode :=
  (.seq (.seq (.reg [⟨(some 5), .mov (.c (.int .i64 0)), none⟩]) laws_szTyS_b5) laws_szTyS_b4)
def laws_szTyS_b14 : HCode :=
  (.seq (.reg [⟨(some 4), .mov (.c (.int .i64 (-1))), none⟩]) .ret)
def laws_szTyS_b13 : HCode :=
  (.cond (.t 11) laws_szTyS_b14 .skip)
def laws_szTyS_b2 : HCode :=
  (.seq (.seq (.reg [⟨(some 10), .mov (.t 1), none⟩,
    ⟨(some 11), .bin .lss (.t 10) (.c (.int .i64 0)), none⟩]) laws_szTyS_b13) laws_szTyS_b3)
def laws_szTyS_b1 : HCode :=
  (.seq (.reg [⟨(some 6), .mov (.t 1), none⟩,
    ⟨(some 7), .mov (.t 0), none⟩,
    ⟨(some 8), .len (.t 7), none⟩,
    ⟨(some 9), .bin .sub (.t 6) (.t 8), none⟩,
    ⟨(some 1), .mov (.t 9), none⟩]) laws_szTyS_b2)
def laws_szTyS_b0 : HCode :=
  (.seq (.reg [⟨(some 4), .mov (.c (.int .i64 0)), none⟩]) laws_szTyS_b1)
def laws_szTyS : HFunc :=
  { np := 2, ntmps := 27, results := [(4, none)], body := laws_szTyS_b0 }
def laws_szCon_b5 : HCode :=
  (.seq (.reg [⟨(some 18), .mov (.t 1), none⟩,
    ⟨(some 4), .mov (.t 18), none⟩]) .ret)
def laws_szCon_b7 : HCode :=
  (.seq (.reg [⟨(some 4), .mov (.c (.int .i64 (-1))), none⟩]) .ret)
def laws_szCon_b6 : HCode :=
  (.cond (.t 17) laws_szCon_b7 .skip)
def laws_szCon_b4 : HCode :=
  (.seq (.seq (.reg [⟨(some 16), .mov (.t 1), none⟩,
    ⟨(some 17), .bin .lss (.t 16) (.c (.int .i64 0)), none⟩]) laws_szCon_b6) laws_szCon_b5)
def laws_szCon_b3 : HCode :=
  (.seq (.reg [⟨(some 12), .faddr 1 (.t 2), none⟩,
    ⟨(some 13), .load false 1 (.t 12), none⟩,
    ⟨(some 14), .mov (.t 1), none⟩,
    ⟨(some 15), .call (.c (.fn F.laws_szTyS [] [])) [(.t 13), (.t 14)], none⟩,
    ⟨(some 1), .mov (.t 15), none⟩]) laws_szCon_b4)
def laws_szCon_b9 : HCode :=
  (.seq (.reg [⟨(some 4), .mov (.c (.int .i64 (-1))), none⟩]) .ret)
def laws_szCon_b8 : HCode :=
  (.cond (.t 11) laws_szCon_b9 .skip)
def laws_szCon_b2 : HCode :=
  (.seq (.seq (.reg [⟨(some 10), .mov (.t 1), none⟩,
    ⟨(some 11), .bin .lss (.t 10) (.c (.int .i64 0)), none⟩]) laws_szCon_b8) laws_szCon_b3)
def laws_szCon_b1 : HCode :=
  (.seq (.reg [⟨(some 5), .mov (.t 1), none⟩,
    ⟨(some 6), .faddr 0 (.t 2), none⟩,
    ⟨(some 7), .load false 1 (.t 6), none⟩,
    ⟨(some 8), .slen (.t 7), none⟩,
    ⟨(some 9), .bin .sub (.t 5) (.t 8), none⟩,
    ⟨(some 1), .mov (.t 9), none⟩]) laws_szCon_b2)
def laws_szCon_b0 : HCode :=
  (.seq (.reg [⟨(some 2), .box (.t 0), none⟩,
    ⟨(some 4), .mov (.c (.int .i64 0)), none⟩]) laws_szCon_b1)
def laws_szCon : HFunc :=
  { np := 2, ntmps := 19, results := [(4, none)], body := laws_szCon_b0 }
def laws_szConS_b4 : HCode :=
  (.seq (.reg [⟨(some 26), .mov (.t 1), none⟩,
    ⟨(some 4), .mov (.t 26), none⟩]) .ret)
def laws_szConS_b8 : HCode :=
  (.reg [⟨(some 16), .mov (.t 5), none⟩,
    ⟨(some 17), .bin .add (.t 16) (.c (.int .i64 1)), none⟩,
    ⟨(some 5), .mov (.t 17), none⟩])
def laws_szConS_b11 : HCode :=
  (.seq (.reg [⟨(some 4), .mov (.c (.int .i64 (-1))), none⟩]) .ret)
def laws_szConS_b10 : HCode :=
  (.cond (.t 25) laws_szConS_b11 .skip)
def laws_szConS_b9 : HCode :=
  (.seq (.reg [⟨(some 24), .mov (.t 1), none⟩,
    ⟨(some 25), .bin .lss (.t 24) (.c (.int .i64 0)), none⟩]) laws_szConS_b10)
def laws_szConS_b7 : HCode :=
  (.seq (.block 1 (.seq (.reg [⟨(some 18), .mov (.t 0), none⟩,
    ⟨(some 19), .mov (.t 5), none⟩,
    ⟨(some 20), .iaddr 2 (.t 18) (.t 19), none⟩,
    ⟨(some 21), .load true 2 (.t 20), none⟩,
    ⟨(some 22), .mov (.t 1), none⟩,
    ⟨(some 23), .call (.c (.fn F.laws_szCon [] [])) [(.t 21), (.t 22)], none⟩,
    ⟨(some 1), .mov (.t 23), none⟩]) laws_szConS_b9)) laws_szConS_b8)
def laws_szConS_b12 : HCode :=
  (.cond (.t 15) .skip (.exit 0))
def laws_szConS_l6 : HCode :=
  (.seq (.seq (.reg [⟨(some 12), .mov (.t 5), none⟩,
    ⟨(some 13), .mov (.t 0), none⟩,
    ⟨(some 14), .len (.t 13), none⟩,
    ⟨(some 15), .bin .lss (.t 12) (.t 14), none⟩]) laws_szConS_b12) laws_szConS_b7)
def laws_szConS_b5 : HCode :=
  (.block 0 (.loop laws_szConS_l6))
def laws_szConS_b3 : HCode :=
  (.seq (.seq (.reg [⟨(some 5), .mov (.c (.int .i64 0)), none⟩]) laws_szConS_b5) laws_szConS_b4)
def laws_szConS_b14 : HCode :=
  (.seq (.reg [⟨(some 4), .mov (.c (.int .i64 (-1))), none⟩]) .ret)
def laws_szConS_b13 : HCode :=
  (.cond (.t 11) laws_szConS_b14 .skip)
def laws_szConS_b2 : HCode :=
  (.seq (.seq (.reg [⟨(some 10), .mov (.t 1), none⟩,
    ⟨(some 11), .bin .lss (.t 10) (.c (.int .i64 0)), none⟩]) laws_szConS_b13) laws_szConS_b3)
def laws_szConS_b1 : HCode :=
  (.seq (.reg [⟨(some 6), .mov (.t 1), none⟩,
    ⟨(some 7), .mov (.t 0), none⟩,
    ⟨(some 8), .len (.t 7), none⟩,
    ⟨(some 9), .bin .sub (.t 6) (.t 8), none⟩,
    ⟨(some 1), .mov (.t 9), none⟩]) laws_szConS_b2)
def laws_szConS_b0 : HCode :=
  (.seq (.reg [⟨(some 4), .mov (.c (.int .i64 0)), none⟩]) laws_szConS_b1)
def laws_szConS : HFunc :=
  { np := 2, ntmps := 27, results := [(4, none)], body := laws_szConS_b0 }
def laws_szData_b5 : HCode :=
  (.seq (.reg [⟨(some 18), .mov (.t 1), none⟩,
    ⟨(some 4), .mov (.t 18), none⟩]) .ret)
def laws_szData_b7 : HCode :=
  (.seq (.reg [⟨(some 4), .mov (.c (.int .i64 (-1))), none⟩]) .ret)
def laws_szData_b6 : HCode :=
  (.cond (.t 17) laws_szData_b7 .skip)
def laws_szData_b4 : HCode :=
  (.seq (.seq (.reg [⟨(some 16), .mov (.t 1), none⟩,
    ⟨(some 17), .bin .lss (.t 16) (.c (.int .i64 0)), none⟩]) laws_szData_b6) laws_szData_b5)
def laws_szData_b3 : HCode :=
  (.seq (.reg [⟨(some 12), .faddr 1 (.t 2), none⟩,
    ⟨(some 13), .load false 1 (.t 12), none⟩,
    ⟨(some 14), .mov (.t 1), none⟩,
    ⟨(some 15), .call (.c (.fn F.laws_szConS [] [])) [(.t 13), (.t 14)], none⟩,
    ⟨(some 1), .mov (.t 15), none⟩]) laws_szData_b4)
def laws_szData_b9 : HCode :=
  (.seq (.reg [⟨(some 4), .mov (.c (.int .i64 (-1))), none⟩]) .ret)
def laws_szData_b8 : HCode :=
  (.cond (.t 11) laws_szData_b9 .skip)
def laws_szData_b2 : HCode :=
  (.seq (.seq (.reg [⟨(some 10), .mov (.t 1), none⟩,
    ⟨(some 11), .bin .lss (.t 10) (.c (.int .i64 0)), none⟩]) laws_szData_b8) laws_szData_b3)
def laws_szData_b1 : HCode :=
  (.seq (.reg [⟨(some 5), .mov (.t 1), none⟩,
    ⟨(some 6), .faddr 0 (.t 2), none⟩,
    ⟨(some 7), .load false 1 (.t 6), none⟩,
    ⟨(some 8), .slen (.t 7), none⟩,
    ⟨(some 9), .bin .sub (.t 5) (.t 8), none⟩,
    ⟨(some 1), .mov (.t 9), none⟩]) laws_szData_b2)
def laws_szData_b0 : HCode :=
  (.seq (.reg [⟨(some 2), .box (.t 0), none⟩,
    ⟨(some 4), .mov (.c (.int .i64 0)), none⟩]) laws_szData_b1)
def laws_szData : HFunc :=
  { np := 2, ntmps := 19, results := [(4, none)], body := laws_szData_b0 }
def laws_szDataS_b4 : HCode :=
  (.seq (.reg [⟨(some 26), .mov (.t 1), none⟩,
    ⟨(some 4), .mov (.t 26), none⟩]) .ret)
def laws_szDataS_b8 : HCode :=
  (.reg [⟨(some 16), .mov (.t 5), none⟩,
    ⟨(some 17), .bin .add (.t 16) (.c (.int .i64 1)), none⟩,
    ⟨(some 5), .mov (.t 17), none⟩])
def laws_szDataS_b11 : HCode :=
  (.seq (.reg [⟨(some 4), .mov (.c (.int .i64 (-1))), none⟩]) .ret)
def laws_szDataS_b10 : HCode :=
  (.cond (.t 25) laws_szDataS_b11 .skip)
def laws_szDataS_b9 : HCode :=
  (.seq (.reg [⟨(some 24), .mov (.t 1), none⟩,
    ⟨(some 25), .bin .lss (.t 24) (.c (.int .i64 0)), none⟩]) laws_szDataS_b10)
def laws_szDataS_b7 : HCode :=
  (.seq (.block 1 (.seq (.reg [⟨(some 18), .mov (.t 0), none⟩,
    ⟨(some 19), .mov (.t 5), none⟩,
    ⟨(some 20), .iaddr 2 (.t 18) (.t 19), none⟩,
    ⟨(some 21), .load true 2 (.t 20), none⟩,
    ⟨(some 22), .mov (.t 1), none⟩,
    ⟨(some 23), .call (.c (.fn F.laws_szData [] [])) [(.t 21), (.t 22)], none⟩,
    ⟨(some 1), .mov (.t 23), none⟩]) laws_szDataS_b9)) laws_szDataS_b8)
def laws_szDataS_b12 : HCode :=
  (.cond (.t 15) .skip (.exit 0))
def laws_szDataS_l6 : HCode :=
  (.seq (.seq (.reg [⟨(some 12), .mov (.t 5), none⟩,
    ⟨(some 13), .mov (.t 0), none⟩,
    ⟨(some 14), .len (.t 13), none⟩,
    ⟨(some 15), .bin .lss (.t 12) (.t 14), none⟩]) laws_szDataS_b12) laws_szDataS_b7)
def laws_szDataS_b5 : HCode :=
  (.block 0 (.loop laws_szDataS_l6))
def laws_szDataS_b3 : HCode :=
  (.seq (.seq (.reg [⟨(some 5), .mov (.c (.int .i64 0)), none⟩]) laws_szDataS_b5) laws_szDataS_b4)
def laws_szDataS_b14 : HCode :=
  (.seq (.reg [⟨(some 4), .mov (.c (.int .i64 (-1))), none⟩]) .ret)
def laws_szDataS_b13 : HCode :=
  (.cond (.t 11) laws_szDataS_b14 .skip)
def laws_szDataS_b2 : HCode :=
  (.seq (.seq (.reg [⟨(some 10), .mov (.t 1), none⟩,
    ⟨(some 11), .bin .lss (.t 10) (.c (.int .i64 0)), none⟩]) laws_szDataS_b13) laws_szDataS_b3)
def laws_szDataS_b1 : HCode :=
  (.seq (.reg [⟨(some 6), .mov (.t 1), none⟩,
    ⟨(some 7), .mov (.t 0), none⟩,
    ⟨(some 8), .len (.t 7), none⟩,
    ⟨(some 9), .bin .sub (.t 6) (.t 8), none⟩,
    ⟨(some 1), .mov (.t 9), none⟩]) laws_szDataS_b2)
def laws_szDataS_b0 : HCode :=
  (.seq (.reg [⟨(some 4), .mov (.c (.int .i64 0)), none⟩]) laws_szDataS_b1)
def laws_szDataS : HFunc :=
  { np := 2, ntmps := 27, results := [(4, none)], body := laws_szDataS_b0 }
def laws_szStringS_b4 : HCode :=
  (.seq (.reg [⟨(some 27), .mov (.t 1), none⟩,
    ⟨(some 4), .mov (.t 27), none⟩]) .ret)
def laws_szStringS_b8 : HCode :=
  (.reg [⟨(some 16), .mov (.t 5), none⟩,
    ⟨(some 17), .bin .add (.t 16) (.c (.int .i64 1)), none⟩,
    ⟨(some 5), .mov (.t 17), none⟩])
def laws_szStringS_b11 : HCode :=
  (.seq (.reg [⟨(some 4), .mov (.c (.int .i64 (-1))), none⟩]) .ret)
def laws_szStringS_b10 : HCode :=
  (.cond (.t 26) laws_szStringS_b11 .skip)
def laws_szStringS_b9 : HCode :=
  (.seq (.reg [⟨(some 25), .mov (.t 1), none⟩,
    ⟨(some 26), .bin .lss (.t 25) (.c (.int .i64 0)), none⟩]) laws_szStringS_b10)
def laws_szStringS_b7 : HCode :=
  (.seq (.block 1 (.seq (.reg [⟨(some 18), .mov (.t 1), none⟩,
    ⟨(some 19), .mov (.t 0), none⟩,
    ⟨(some 20), .mov (.t 5), none⟩,
    ⟨(some 21), .iaddr 1 (.t 19) (.t 20), none⟩,
    ⟨(some 22), .load false 1 (.t 21), none⟩,
    ⟨(some 23), .slen (.t 22), none⟩,
    ⟨(some 24), .bin .sub (.t 18) (.t 23), none⟩,
    ⟨(some 1), .mov (.t 24), none⟩]) laws_szStringS_b9)) laws_szStringS_b8)
def laws_szStringS_b12 : HCode :=
  (.cond (.t 15) .skip (.exit 0))
def laws_szStringS_l6 : HCode :=
  (.seq (.seq (.reg [⟨(some 12), .mov (.t 5), none⟩,
    ⟨(some 13), .mov (.t 0), none⟩,
    ⟨(some 14), .len (.t 13), none⟩,
    ⟨(some 15), .bin .lss (.t 12) (.t 14), none⟩]) laws_szStringS_b12) laws_szStringS_b7)
def laws_szStringS_b5 : HCode :=
  (.block 0 (.loop laws_szStringS_l6))
def laws_szStringS_b3 : HCode :=
  (.seq (.seq (.reg [⟨(some 5), .mov (.c (.int .i64 0)), none⟩]) laws_szStringS_b5) laws_szStringS_b4)
def laws_szStringS_b14 : HCode :=
  (.seq (.reg [⟨(some 4), .mov (.c (.int .i64 (-1))), none⟩]) .ret)
def laws_szStringS_b13 : HCode :=
  (.cond (.t 11) laws_szStringS_b14 .skip)
def laws_szStringS_b2 : HCode :=
  (.seq (.seq (.reg [⟨(some 10), .mov (.t 1), none⟩,
    ⟨(some 11), .bin .lss (.t 10) (.c (.int .i64 0)), none⟩]) laws_szStringS_b13) laws_szStringS_b3)
def laws_szStringS_b1 : HCode :=
  (.seq (.reg [⟨(some 6), .mov (.t 1), none⟩,
    ⟨(some 7), .mov (.t 0), none⟩,
    ⟨(some 8), .len (.t 7), none⟩,
    ⟨(some 9), .bin .sub (.t 6) (.t 8), none⟩,
    ⟨(some 1), .mov (.t 9), none⟩]) laws_szStringS_b2)
def laws_szStringS_b0 : HCode :=
  (.seq (.reg [⟨(some 4), .mov (.c (.int .i64 0)), none⟩]) laws_szStringS_b1)
def laws_szStringS : HFunc :=
  { np := 2, ntmps := 28, results := [(4, none)], body := laws_szStringS_b0 }
def laws_szAlt_b7 : HCode :=
  (.seq (.reg [⟨(some 24), .mov (.t 1), none⟩,
    ⟨(some 4), .mov (.t 24), none⟩]) .ret)
def laws_szAlt_b9 : HCode :=
  (.seq (.reg [⟨(some 4), .mov (.c (.int .i64 (-1))), none⟩]) .ret)
def laws_szAlt_b8 : HCode :=
  (.cond (.t 23) laws_szAlt_b9 .skip)
def laws_szAlt_b6 : HCode :=
  (.seq (.seq (.reg [⟨(some 22), .mov (.t 1), none⟩,
    ⟨(some 23), .bin .lss (.t 22) (.c (.int .i64 0)), none⟩]) laws_szAlt_b8) laws_szAlt_b7)
def laws_szAlt_b5 : HCode :=
  (.seq (.reg [⟨(some 18), .faddr 2 (.t 2), none⟩,
    ⟨(some 19), .load true 6 (.t 18), none⟩,
    ⟨(some 20), .mov (.t 1), none⟩,
    ⟨(some 21), .call (.c (.fn F.laws_szExp [] [])) [(.t 19), (.t 20)], none⟩,
    ⟨(some 1), .mov (.t 21), none⟩]) laws_szAlt_b6)
def laws_szAlt_b11 : HCode :=
  (.seq (.reg [⟨(some 4), .mov (.c (.int .i64 (-1))), none⟩]) .ret)
def laws_szAlt_b10 : HCode :=
  (.cond (.t 17) laws_szAlt_b11 .skip)
def laws_szAlt_b4 : HCode :=
  (.seq (.seq (.reg [⟨(some 16), .mov (.t 1), none⟩,
    ⟨(some 17), .bin .lss (.t 16) (.c (.int .i64 0)), none⟩]) laws_szAlt_b10) laws_szAlt_b5)
def laws_szAlt_b3 : HCode :=
  (.seq (.reg [⟨(some 12), .faddr 1 (.t 2), none⟩,
    ⟨(some 13), .load false 1 (.t 12), none⟩,
    ⟨(some 14), .mov (.t 1), none⟩,
    ⟨(some 15), .call (.c (.fn F.laws_szStringS [] [])) [(.t 13), (.t 14)], none⟩,
    ⟨(some 1), .mov (.t 15), none⟩]) laws_szAlt_b4)
def laws_szAlt_b13 : HCode :=
  (.seq (.reg [⟨(some 4), .mov (.c (.int .i64 (-1))), none⟩]) .ret)
def laws_szAlt_b12 : HCode :=
  (.cond (.t 11) laws_szAlt_b13 .skip)
def laws_szAlt_b2 : HCode :=
  (.seq (.seq (.reg [⟨(some 10), .mov (.t 1), none⟩,
    ⟨(some 11), .bin .lss (.t 10) (.c (.int .i64 0)), none⟩]) laws_szAlt_b12) laws_szAlt_b3)
def laws_szAlt_b1 : HCode :=
  (.seq (.reg [⟨(some 5), .mov (.t 1), none⟩,
    ⟨(some 6), .faddr 0 (.t 2), none⟩,
    ⟨(some 7), .load false 1 (.t 6), none⟩,
    ⟨(some 8), .slen (.t 7), none⟩,
    ⟨(some 9), .bin .sub (.t 5) (.t 8), none⟩,
    ⟨(some 1), .mov (.t 9), none⟩]) laws_szAlt_b2)
def laws_szAlt_b0 : HCode :=
  (.seq (.reg [⟨(some 2), .box (.t 0), none⟩,
    ⟨(some 4), .mov (.c (.int .i64 0)), none⟩]) laws_szAlt_b1)
def laws_szAlt : HFunc :=
  { np := 2, ntmps := 25, results := [(4, none)], body := laws_szAlt_b0 }
def laws_szAltS_b4 : HCode :=
  (.seq (.reg [⟨(some 26), .mov (.t 1), none⟩,
    ⟨(some 4), .mov (.t 26), none⟩]) .ret)
def laws_szAltS_b8 : HCode :=
  (.reg [⟨(some 16), .mov (.t 5), none⟩,
    ⟨(some 17), .bin .add (.t 16) (.c (.int .i64 1)), none⟩,
    ⟨(some 5), .mov (.t 17), none⟩])
def laws_szAltS_b11 : HCode :=
  (.seq (.reg [⟨(some 4), .mov (.c (.int .i64 (-1))), none⟩]) .ret)
def laws_szAltS_b10 : HCode :=
  (.cond (.t 25) laws_szAltS_b11 .skip)
def laws_szAltS_b9 : HCode :=
  (.seq (.reg [⟨(some 24), .mov (.t 1), none⟩,
    ⟨(some 25), .bin .lss (.t 24) (.c (.int .i64 0)), none⟩]) laws_szAltS_b10)
def laws_szAltS_b7 : HCode :=
  (.seq (.block 1 (.seq (.reg [⟨(some 18), .mov (.t 0), none⟩,
    ⟨(some 19), .mov (.t 5), none⟩,
    ⟨(some 20), .iaddr 8 (.t 18) (.t 19), none⟩,
    ⟨(some 21), .load true 8 (.t 20), none⟩,
    ⟨(some 22), .mov (.t 1), none⟩,
    ⟨(some 23), .call (.c (.fn F.laws_szAlt [] [])) [(.t 21), (.t 22)], none⟩,
    ⟨(some 1), .mov (.t 23), none⟩]) laws_szAltS_b9)) laws_szAltS_b8)
def laws_szAltS_b12 : HCode :=
  (.cond (.t 15) .skip (.exit 0))
def laws_szAltS_l6 : HCode :=
  (.seq (.seq (.reg [⟨(some 12), .mov (.t 5), none⟩,
    ⟨(some 13), .mov (.t 0), none⟩,
    ⟨(some 14), .len (.t 13), none⟩,
    ⟨(some 15), .bin .lss (.t 12) (.t 14), none⟩]) laws_szAltS_b12) laws_szAltS_b7)
def laws_szAltS_b5 : HCode :=
  (.block 0 (.loop laws_szAltS_l6))
def laws_szAltS_b3 : HCode :=
  (.seq (.seq (.reg [⟨(some 5), .mov (.c (.int .i64 0)), none⟩]) laws_szAltS_b5) laws_szAltS_b4)
def laws_szAltS_b14 : HCode :=
  (.seq (.reg [⟨(some 4), .mov (.c (.int .i64 (-1))), none⟩]) .ret)
def laws_szAltS_b13 : HCode :=
  (.cond (.t 11) laws_szAltS_b14 .skip)
def laws_szAltS_b2 : HCode :=
  (.seq (.seq (.reg [⟨(some 10), .mov (.t 1), none⟩,
    ⟨(some 11), .bin .lss (.t 10) (.c (.int .i64 0)), none⟩]) laws_szAltS_b13) laws_szAltS_b3)
def laws_szAltS_b1 : HCode :=
  (.seq (.reg [⟨(some 6), .mov (.t 1), none⟩,
    ⟨(some 7), .mov (.t 0), none⟩,
    ⟨(some 8), .len (.t 7), none⟩,
    ⟨(some 9), .bin .sub (.t 6) (.t 8), none⟩,
    ⟨(some 1), .mov (.t 9), none⟩]) laws_szAltS_b2)
def laws_szAltS_b0 : HCode :=
  (.seq (.reg [⟨(some 4), .mov (.c (.int .i64 0)), none⟩]) laws_szAltS_b1)
def laws_szAltS : HFunc :=
  { np := 2, ntmps := 27, results := [(4, none)], body := laws_szAltS_b0 }
def laws_szDec_b9 : HCode :=
  (.seq (.reg [⟨(some 30), .mov (.t 1), none⟩,
    ⟨(some 4), .mov (.t 30), none⟩]) .ret)
def laws_szDec_b11 : HCode :=
  (.seq (.reg [⟨(some 4), .mov (.c (.int .i64 (-1))), none⟩]) .ret)
def laws_szDec_b10 : HCode :=
  (.cond (.t 29) laws_szDec_b11 .skip)
def laws_szDec_b8 : HCode :=
  (.seq (.seq (.reg [⟨(some 28), .mov (.t 1), none⟩,
    ⟨(some 29), .bin .lss (.t 28) (.c (.int .i64 0)), none⟩]) laws_szDec_b10) laws_szDec_b9)
def laws_szDec_b7 : HCode :=
  (.seq (.reg [⟨(some 24), .faddr 8 (.t 2), none⟩,
    ⟨(some 25), .load false 1 (.t 24), none⟩,
    ⟨(some 26), .mov (.t 1), none⟩,
    ⟨(some 27), .call (.c (.fn F.laws_szDecS [] [])) [(.t 25), (.t 26)], none⟩,
    ⟨(some 1), .mov (.t 27), none⟩]) laws_szDec_b8)
def laws_szDec_b13 : HCode :=
  (.seq (.reg [⟨(some 4), .mov (.c (.int .i64 (-1))), none⟩]) .ret)
def laws_szDec_b12 : HCode :=
  (.cond (.t 23) laws_szDec_b13 .skip)
def laws_szDec_b6 : HCode :=
  (.seq (.seq (.reg [⟨(some 22), .mov (.t 1), none⟩,
    ⟨(some 23), .bin .lss (.t 22) (.c (.int .i64 0)), none⟩]) laws_szDec_b12) laws_szDec_b7)
def laws_szDec_b5 : HCode :=
  (.seq (.reg [⟨(some 18), .faddr 2 (.t 2), none⟩,
    ⟨(some 19), .load true 6 (.t 18), none⟩,
    ⟨(some 20), .mov (.t 1), none⟩,
    ⟨(some 21), .call (.c (.fn F.laws_szExp [] [])) [(.t 19), (.t 20)], none⟩,
    ⟨(some 1), .mov (.t 21), none⟩]) laws_szDec_b6)
def laws_szDec_b15 : HCode :=
  (.seq (.reg [⟨(some 4), .mov (.c (.int .i64 (-1))), none⟩]) .ret)
def laws_szDec_b14 : HCode :=
  (.cond (.t 17) laws_szDec_b15 .skip)
def laws_szDec_b4 : HCode :=
  (.seq (.seq (.reg [⟨(some 16), .mov (.t 1), none⟩,
    ⟨(some 17), .bin .lss (.t 16) (.c (.int .i64 0)), none⟩]) laws_szDec_b14) laws_szDec_b5)
def laws_szDec_b3 : HCode :=
  (.seq (.reg [⟨(some 12), .faddr 1 (.t 2), none⟩,
    ⟨(some 13), .load false 1 (.t 12), none⟩,
    ⟨(some 14), .mov (.t 1), none⟩,
    ⟨(some 15), .call (.c (.fn F.laws_szStringS [] [])) [(.t 13), (.t 14)], none⟩,
    ⟨(some 1), .mov (.t 15), none⟩]) laws_szDec_b4)
def laws_szDec_b17 : HCode :=
  (.seq (.reg [⟨(some 4), .mov (.c (.int .i64 (-1))), none⟩]) .ret)
def laws_szDec_b16 : HCode :=
  (.cond (.t 11) laws_szDec_b17 .skip)
def laws_szDec_b2 : HCode :=
  (.seq (.seq (.reg [⟨(some 10), .mov (.t 1), none⟩,
    ⟨(some 11), .bin .lss (.t 10) (.c (.int .i64 0)), none⟩]) laws_szDec_b16) laws_szDec_b3)
def laws_szDec_b1 : HCode :=
  (.seq (.reg [⟨(some 5), .mov (.t 1), none⟩,
    ⟨(some 6), .faddr 0 (.t 2), none⟩,
    ⟨(some 7), .load false 1 (.t 6), none⟩,
    ⟨(some 8), .slen (.t 7), none⟩,
    ⟨(some 9), .bin .sub (.t 5) (.t 8), none⟩,
    ⟨(some 1), .mov (.t 9), none⟩]) laws_szDec_b2)
def laws_szDec_b0 : HCode :=
  (.seq (.reg [⟨(some 2), .box (.t 0), none⟩,
    ⟨(some 4), .mov (.c (.int .i64 0)), none⟩]) laws_szDec_b1)
def laws_szDec : HFunc :=
  { np := 2, ntmps := 31, results := [(4, none)], body := laws_szDec_b0 }
def laws_szDecS_b4 : HCode :=
  (.seq (.reg [⟨(some 26), .mov (.t 1), none⟩,
    ⟨(some 4), .mov (.t 26), none⟩]) .ret)
def laws_szDecS_b8 : HCode :=
  (.reg [⟨(some 16), .mov (.t 5), none⟩,
    ⟨(some 17), .bin .add (.t 16) (.c (.int .i64 1)), none⟩,
    ⟨(some 5), .mov (.t 17), none⟩])
def laws_szDecS_b11 : HCode :=
  (.seq (.reg [⟨(some 4), .mov (.c (.int .i64 (-1))), none⟩]) .ret)
def laws_szDecS_b10 : HCode :=
  (.cond (.t 25) laws_szDecS_b11 .skip)
def laws_szDecS_b9 : HCode :=
  (.seq (.reg [⟨(some 24), .mov (.t 1), none⟩,
    ⟨(some 25), .bin .lss (.t 24) (.c (.int .i64 0)), none⟩]) laws_szDecS_b10)
def laws_szDecS_b7 : HCode :=
  (.seq (.block 1 (.seq (.reg [⟨(some 18), .mov (.t 0), none⟩,
    ⟨(some 19), .mov (.t 5), none⟩,
    ⟨(some 20), .iaddr 9 (.t 18) (.t 19), none⟩,
    ⟨(some 21), .load true 9 (.t 20), none⟩,
    ⟨(some 22), .mov (.t 1), none⟩,
    ⟨(some 23), .call (.c (.fn F.laws_szDec [] [])) [(.t 21), (.t 22)], none⟩,
    ⟨(some 1), .mov (.t 23), none⟩]) laws_szDecS_b9)) laws_szDecS_b8)
def laws_szDecS_b12 : HCode :=
  (.cond (.t 15) .skip (.exit 0))
def laws_szDecS_l6 : HCode :=
  (.seq (.seq (.reg [⟨(some 12), .mov (.t 5), none⟩,
    ⟨(some 13), .mov (.t 0), none⟩,
    ⟨(some 14), .len (.t 13), none⟩,
    ⟨(some 15), .bin .lss (.t 12) (.t 14), none⟩]) laws_szDecS_b12) laws_szDecS_b7)
def laws_szDecS_b5 : HCode :=
  (.block 0 (.loop laws_szDecS_l6))
def laws_szDecS_b3 : HCode :=
  (.seq (.seq (.reg [⟨(some 5), .mov (.c (.int .i64 0)), none⟩]) laws_szDecS_b5) laws_szDecS_b4)
def laws_szDecS_b14 : HCode :=
  (.seq (.reg [⟨(some 4), .mov (.c (.int .i64 (-1))), none⟩]) .ret)
def laws_szDecS_b13 : HCode :=
  (.cond (.t 11) laws_szDecS_b14 .skip)
def laws_szDecS_b2 : HCode :=
  (.seq (.seq (.reg [⟨(some 10), .mov (.t 1), none⟩,
    ⟨(some 11), .bin .lss (.t 10) (.c (.int .i64 0)), none⟩]) laws_szDecS_b13) laws_szDecS_b3)
def laws_szDecS_b1 : HCode :=
  (.seq (.reg [⟨(some 6), .mov (.t 1), none⟩,
    ⟨(some 7), .mov (.t 0), none⟩,
    ⟨(some 8), .len (.t 7), none⟩,
    ⟨(some 9), .bin .sub (.t 6) (.t 8), none⟩,
    ⟨(some 1), .mov (.t 9), none⟩]) laws_szDecS_b2)
def laws_szDecS_b0 : HCode :=
  (.seq (.reg [⟨(some 4), .mov (.c (.int .i64 0)), none⟩]) laws_szDecS_b1)
def laws_szDecS : HFunc :=
  { np := 2, ntmps := 27, results := [(4, none)], body := laws_szDecS_b0 }
def laws_szExp_b9 : HCode :=
  (.seq (.reg [⟨(some 30), .mov (.t 1), none⟩,
    ⟨(some 4), .mov (.t 30), none⟩]) .ret)
def laws_szExp_b11 : HCode :=
  (.seq (.reg [⟨(some 4), .mov (.c (.int .i64 (-1))), none⟩]) .ret)
def laws_szExp_b10 : HCode :=
  (.cond (.t 29) laws_szExp_b11 .skip)
def laws_szExp_b8 : HCode :=
  (.seq (.seq (.reg [⟨(some 28), .mov (.t 1), none⟩,
    ⟨(some 29), .bin .lss (.t 28) (.c (.int .i64 0)), none⟩]) laws_szExp_b10) laws_szExp_b9)
def laws_szExp_b7 : HCode :=
  (.seq (.reg [⟨(some 24), .faddr 5 (.t 2), none⟩,
    ⟨(some 25), .load false 1 (.t 24), none⟩,
    ⟨(some 26), .mov (.t 1), none⟩,
    ⟨(some 27), .call (.c (.fn F.laws_szAltS [] [])) [(.t 25), (.t 26)], none⟩,
    ⟨(some 1), .mov (.t 27), none⟩]) laws_szExp_b8)
def laws_szExp_b13 : HCode :=
  (.seq (.reg [⟨(some 4), .mov (.c (.int .i64 (-1))), none⟩]) .ret)
def laws_szExp_b12 : HCode :=
  (.cond (.t 23) laws_szExp_b13 .skip)
def laws_szExp_b6 : HCode :=
  (.seq (.seq (.reg [⟨(some 22), .mov (.t 1), none⟩,
    ⟨(some 23), .bin .lss (.t 22) (.c (.int .i64 0)), none⟩]) laws_szExp_b12) laws_szExp_b7)
def laws_szExp_b5 : HCode :=
  (.seq (.reg [⟨(some 18), .faddr 4 (.t 2), none⟩,
    ⟨(some 19), .load false 1 (.t 18), none⟩,
    ⟨(some 20), .mov (.t 1), none⟩,
    ⟨(some 21), .call (.c (.fn F.laws_szDecS [] [])) [(.t 19), (.t 20)], none⟩,
    ⟨(some 1), .mov (.t 21), none⟩]) laws_szExp_b6)
def laws_szExp_b15 : HCode :=
  (.seq (.reg [⟨(some 4), .mov (.c (.int .i64 (-1))), none⟩]) .ret)
def laws_szExp_b14 : HCode :=
  (.cond (.t 17) laws_szExp_b15 .skip)
def laws_szExp_b4 : HCode :=
  (.seq (.seq (.reg [⟨(some 16), .mov (.t 1), none⟩,
    ⟨(some 17), .bin .lss (.t 16) (.c (.int .i64 0)), none⟩]) laws_szExp_b14) laws_szExp_b5)
def laws_szExp_b3 : HCode :=
  (.seq (.reg [⟨(some 12), .faddr 3 (.t 2), none⟩,
    ⟨(some 13), .load false 1 (.t 12), none⟩,
    ⟨(some 14), .mov (.t 1), none⟩,
    ⟨(some 15), .call (.c (.fn F.laws_szExpS [] [])) [(.t 13), (.t 14)], none⟩,
    ⟨(some 1), .mov (.t 15), none⟩]) laws_szExp_b4)
def laws_szExp_b17 : HCode :=
  (.seq (.reg [⟨(some 4), .mov (.c (.int .i64 (-1))), none⟩]) .ret)
def laws_szExp_b16 : HCode :=
  (.cond (.t 11) laws_szExp_b17 .skip)
def laws_szExp_b2 : HCode :=
  (.seq (.seq (.reg [⟨(some 10), .mov (.t 1), none⟩,
    ⟨(some 11), .bin .lss (.t 10) (.c (.int .i64 0)), none⟩]) laws_szExp_b16) laws_szExp_b3)
def laws_szExp_b1 : HCode :=
  (.seq (.reg [⟨(some 5), .mov (.t 1), none⟩,
    ⟨(some 6), .faddr 1 (.t 2), none⟩,
    ⟨(some 7), .load false 1 (.t 6), none⟩,
    ⟨(some 8), .slen (.t 7), none⟩,
    ⟨(some 9), .bin .sub (.t 5) (.t 8), none⟩,
    ⟨(some 1), .mov (.t 9), none⟩]) laws_szExp_b2)
def laws_szExp_b0 : HCode :=
  (.seq (.reg [⟨(some 2), .box (.t 0), none⟩,
    ⟨(some 4), .mov (.c (.int .i64 0)), none⟩]) laws_szExp_b1)
def laws_szExp : HFunc :=
  { np := 2, ntmps := 31, results := [(4, none)], body := laws_szExp_b0 }
def laws_szExpS_b4 : HCode :=
  (.seq (.reg [⟨(some 26), .mov (.t 1), none⟩,
    ⟨(some 4), .mov (.t 26), none⟩]) .ret)
def laws_szExpS_b8 : HCode :=
  (.reg [⟨(some 16), .mov (.t 5), none⟩,
    ⟨(some 17), .bin .add (.t 16) (.c (.int .i64 1)), none⟩,
    ⟨(some 5), .mov (.t 17), none⟩])
def laws_szExpS_b11 : HCode :=
  (.seq (.reg [⟨(some 4), .mov (.c (.int .i64 (-1))), none⟩]) .ret)
def laws_szExpS_b10 : HCode :=
  (.cond (.t 25) laws_szExpS_b11 .skip)
def laws_szExpS_b9 : HCode :=
  (.seq (.reg [⟨(some 24), .mov (.t 1), none⟩,
    ⟨(some 25), .bin .lss (.t 24) (.c (.int .i64 0)), none⟩]) laws_szExpS_b10)
def laws_szExpS_b7 : HCode :=
  (.seq (.block 1 (.seq (.reg [⟨(some 18), .mov (.t 0), none⟩,
    ⟨(some 19), .mov (.t 5), none⟩,
    ⟨(some 20), .iaddr 6 (.t 18) (.t 19), none⟩,
    ⟨(some 21), .load true 6 (.t 20), none⟩,
    ⟨(some 22), .mov (.t 1), none⟩,
    ⟨(some 23), .call (.c (.fn F.laws_szExp [] [])) [(.t 21), (.t 22)], none⟩,
    ⟨(some 1), .mov (.t 23), none⟩]) laws_szExpS_b9)) laws_szExpS_b8)
def laws_szExpS_b12 : HCode :=
  (.cond (.t 15) .skip (.exit 0))
def laws_szExpS_l6 : HCode :=
  (.seq (.seq (.reg [⟨(some 12), .mov (.t 5), none⟩,
    ⟨(some 13), .mov (.t 0), none⟩,
    ⟨(some 14), .len (.t 13), none⟩,
    ⟨(some 15), .bin .lss (.t 12) (.t 14), none⟩]) laws_szExpS_b12) laws_szExpS_b7)
def laws_szExpS_b5 : HCode :=
  (.block 0 (.loop laws_szExpS_l6))
def laws_szExpS_b3 : HCode :=
  (.seq (.seq (.reg [⟨(some 5), .mov (.c (.int .i64 0)), none⟩]) laws_szExpS_b5) laws_szExpS_b4)
def laws_szExpS_b14 : HCode :=
  (.seq (.reg [⟨(some 4), .mov (.c (.int .i64 (-1))), none⟩]) .ret)
def laws_szExpS_b13 : HCode :=
  (.cond (.t 11) laws_szExpS_b14 .skip)
def laws_szExpS_b2 : HCode :=
  (.seq (.seq (.reg [⟨(some 10), .mov (.t 1), none⟩,
    ⟨(some 11), .bin .lss (.t 10) (.c (.int .i64 0)), none⟩]) laws_szExpS_b13) laws_szExpS_b3)
def laws_szExpS_b1 : HCode :=
  (.seq (.reg [⟨(some 6), .mov (.t 1), none⟩,
    ⟨(some 7), .mov (.t 0), none⟩,
    ⟨(some 8), .len (.t 7), none⟩,
    ⟨(some 9), .bin .sub (.t 6) (.t 8), none⟩,
    ⟨(some 1), .mov (.t 9), none⟩]) laws_szExpS_b2)
def laws_szExpS_b0 : HCode :=
  (.seq (.reg [⟨(some 4), .mov (.c (.int .i64 0)), none⟩]) laws_szExpS_b1)
def laws_szExpS : HFunc :=
  { np := 2, ntmps := 27, results := [(4, none)], body := laws_szExpS_b0 }
def laws_szProg_b5 : HCode :=
  (.seq (.reg [⟨(some 17), .mov (.t 1), none⟩,
    ⟨(some 4), .mov (.t 17), none⟩]) .ret)
def laws_szProg_b7 : HCode :=
  (.seq (.reg [⟨(some 4), .mov (.c (.int .i64 (-1))), none⟩]) .ret)
def laws_szProg_b6 : HCode :=
  (.cond (.t 16) laws_szProg_b7 .skip)
def laws_szProg_b4 : HCode :=
  (.seq (.seq (.reg [⟨(some 15), .mov (.t 1), none⟩,
    ⟨(some 16), .bin .lss (.t 15) (.c (.int .i64 0)), none⟩]) laws_szProg_b6) laws_szProg_b5)
def laws_szProg_b3 : HCode :=
  (.seq (.reg [⟨(some 11), .faddr 1 (.t 2), none⟩,
    ⟨(some 12), .load false 1 (.t 11), none⟩,
    ⟨(some 13), .mov (.t 1), none⟩,
    ⟨(some 14), .call (.c (.fn F.laws_szDecS [] [])) [(.t 12), (.t 13)], none⟩,
    ⟨(some 1), .mov (.t 14), none⟩]) laws_szProg_b4)
def laws_szProg_b9 : HCode :=
  (.seq (.reg [⟨(some 4), .mov (.c (.int .i64 (-1))), none⟩]) .ret)
def laws_szProg_b8 : HCode :=
  (.cond (.t 10) laws_szProg_b9 .skip)
def laws_szProg_b2 : HCode :=
  (.seq (.seq (.reg [⟨(some 9), .mov (.t 1), none⟩,
    ⟨(some 10), .bin .lss (.t 9) (.c (.int .i64 0)), none⟩]) laws_szProg_b8) laws_szProg_b3)
def laws_szProg_b1 : HCode :=
  (.seq (.reg [⟨(some 5), .faddr 0 (.t 2), none⟩,
    ⟨(some 6), .load false 1 (.t 5), none⟩,
    ⟨(some 7), .mov (.t 1), none⟩,
    ⟨(some 8), .call (.c (.fn F.laws_szDataS [] [])) [(.t 6), (.t 7)], none⟩,
    ⟨(some 1), .mov (.t 8), none⟩]) laws_szProg_b2)
def laws_szProg_b0 : HCode :=
  (.seq (.reg [⟨(some 2), .box (.t 0), none⟩,
    ⟨(some 4), .mov (.c (.int .i64 0)), none⟩]) laws_szProg_b1)
def laws_szProg : HFunc :=
  { np := 2, ntmps := 18, results := [(4, none)], body := laws_szProg_b0 }
def laws_FnExactArityOf_b10 : HCode :=
  (.seq (.reg [⟨(some 4), .mov (.c (.bool true)), none⟩]) .ret)
def laws_FnExactArityOf_b12 : HCode :=
  (.seq (.reg [⟨(some 4), .mov (.c (.bool false)), none⟩]) .ret)
def laws_FnExactArityOf_b11 : HCode :=
  (.cond (.t 33) laws_FnExactArityOf_b12 .skip)
def laws_FnExactArityOf_b9 : HCode :=
  (.seq (.seq (.dreg (.q ⟨(some 29), .load true 2 (.t 7), none⟩ (.q ⟨(some 30), .load true 2 (.t 2), none⟩ (.l ⟨(some 31), .call (.c (.fn F.laws_toProg [] [])) [(.t 30)], none⟩ [⟨(some 29), .load true 2 (.t 7), none⟩] (.l ⟨(some 32), .call (.c (.fn F.laws_eqProg [] [])) [(.t 29), (.t 31)], none⟩ [] (.q ⟨(some 33), .not (.t 32), none⟩ .done) .none) .none)))) laws_FnExactArityOf_b11) laws_FnExactArityOf_b10)
def laws_FnExactArityOf_b14 : HCode :=
  (.seq (.reg [⟨(some 4), .mov (.c (.bool false)), none⟩]) .ret)
def laws_FnExactArityOf_b13 : HCode :=
  (.cond (.t 28) laws_FnExactArityOf_b14 .skip)
def laws_FnExactArityOf_b8 : HCode :=
  (.seq (.seq (.reg [⟨(some 26), .mov (.t 8), none⟩,
    ⟨(some 27), .mov (.t 6), none⟩,
    ⟨(some 28), .bin .neq (.t 26) (.t 27), none⟩]) laws_FnExactArityOf_b13) laws_FnExactArityOf_b9)
def laws_FnExactArityOf_b7 : HCode :=
  (.seq (.reg [⟨(some 23), .load true 2 (.t 7), none⟩,
    ⟨(some 24), .mov (.t 1), none⟩,
    ⟨(some 25), .call (.c (.fn F.impl_ArityOf [] [])) [(.t 23), (.t 24)], none⟩,
    ⟨(some 8), .mov (.t 25), none⟩]) laws_FnExactArityOf_b8)
def laws_FnExactArityOf_b6 : HCode :=
  (.seq (.reg [⟨(some 21), .load true 2 (.t 2), none⟩,
    ⟨(some 22), .call (.c (.fn F.laws_toProg [] [])) [(.t 21)], none⟩,
    ⟨(some 7), .alloc (.agg [.nils, .nils]), none⟩,
    ⟨none, .store 2 (.t 7) (.t 22), none⟩]) laws_FnExactArityOf_b7)
def laws_FnExactArityOf_b5 : HCode :=
  (.seq (.reg [⟨(some 17), .load true 2 (.t 2), none⟩,
    ⟨(some 18), .call (.c (.fn F.laws_toProg [] [])) [(.t 17)], none⟩,
    ⟨(some 19), .mov (.t 1), none⟩,
    ⟨(some 20), .call (.c (.fn F.spec_ArityOf [] [])) [(.t 18), (.t 19)], none⟩,
    ⟨(some 6), .mov (.t 20), none⟩]) laws_FnExactArityOf_b6)
def laws_FnExactArityOf_b16 : HCode :=
  (.seq (.reg [⟨(some 4), .mov (.c (.bool true)), none⟩]) .ret)
def laws_FnExactArityOf_b15 : HCode :=
  (.cond (.t 16) laws_FnExactArityOf_b16 .skip)
def laws_FnExactArityOf_b4 : HCode :=
  (.seq (.seq (.reg [⟨(some 15), .mov (.t 5), none⟩,
    ⟨(some 16), .bin .lss (.t 15) (.c (.int .i64 0)), none⟩]) laws_FnExactArityOf_b15) laws_FnExactArityOf_b5)
def laws_FnExactArityOf_b3 : HCode :=
  (.seq (.reg [⟨(some 12), .load true 2 (.t 2), none⟩,
    ⟨(some 13), .mov (.t 5), none⟩,
    ⟨(some 14), .call (.c (.fn F.laws_szProg [] [])) [(.t 12), (.t 13)], none⟩,
    ⟨(some 5), .mov (.t 14), none⟩]) laws_FnExactArityOf_b4)
def laws_FnExactArityOf_b2 : HCode :=
  (.seq (.reg [⟨(some 5), .mov (.c (.int .i64 1048576)), none⟩]) laws_FnExactArityOf_b3)
def laws_FnExactArityOf_b18 : HCode :=
  (.seq (.reg [⟨(some 4), .mov (.c (.bool true)), none⟩]) .ret)
def laws_FnExactArityOf_b17 : HCode :=
  (.cond (.t 11) laws_FnExactArityOf_b18 .skip)
def laws_FnExactArityOf_b1 : HCode :=
  (.seq (.seq (.reg [⟨(some 9), .mov (.t 1), none⟩,
    ⟨(some 10), .slen (.t 9), none⟩,
    ⟨(some 11), .bin .gtr (.t 10) (.c (.int .i64 1048576)), none⟩]) laws_FnExactArityOf_b17) laws_FnExactArityOf_b2)
def laws_FnExactArityOf_b0 : HCode :=
  (.seq (.reg [⟨(some 2), .box (.t 0), none⟩,
    ⟨(some 4), .mov (.c (.bool false)), none⟩]) laws_FnExactArityOf_b1)
def laws_FnExactArityOf : HFunc :=
  { np := 2, ntmps := 34, results := [(4, none)], body := laws_FnExactArityOf_b0 }
def spec_DataOf_b3 : HCode :=
  (.seq (.reg [⟨(some 4), .mov (.c (.str ⟨⟨[]⟩⟩)), none⟩]) .ret)
def spec_DataOf_b7 : HCode :=
  (.reg [⟨(some 18), .mov (.t 5), none⟩,
    ⟨(some 19), .bin .add (.t 18) (.c (.int .i64 1)), none⟩,
    ⟨(some 5), .mov (.t 19), none⟩])
def spec_DataOf_b11 : HCode :=
  (.reg [⟨(some 29), .mov (.t 6), none⟩,
    ⟨(some 30), .bin .add (.t 29) (.c (.int .i64 1)), none⟩,
    ⟨(some 6), .mov (.t 30), none⟩])
def spec_DataOf_b13 : HCode :=
  (.seq (.reg [⟨(some 43), .faddr 0 (.t 2), none⟩,
    ⟨(some 44), .load false 1 (.t 43), none⟩,
    ⟨(some 45), .mov (.t 5), none⟩,
    ⟨(some 46), .iaddr 2 (.t 44) (.t 45), none⟩,
    ⟨(some 47), .faddr 0 (.t 46), none⟩,
    ⟨(some 48), .load false 1 (.t 47), none⟩,
    ⟨(some 4), .mov (.t 48), none⟩]) .ret)
def spec_DataOf_b12 : HCode :=
  (.cond (.t 42) spec_DataOf_b13 .skip)
def spec_DataOf_b10 : HCode :=
  (.seq (.block 3 (.seq (.reg [⟨(some 31), .faddr 0 (.t 2), none⟩,
    ⟨(some 32), .load false 1 (.t 31), none⟩,
    ⟨(some 33), .mov (.t 5), none⟩,
    ⟨(some 34), .iaddr 2 (.t 32) (.t 33), none⟩,
    ⟨(some 35), .faddr 1 (.t 34), none⟩,
    ⟨(some 36), .load false 1 (.t 35), none⟩,
    ⟨(some 37), .mov (.t 6), none⟩,
    ⟨(some 38), .iaddr 2 (.t 36) (.t 37), none⟩,
    ⟨(some 39), .faddr 0 (.t 38), none⟩,
    ⟨(some 40), .load false 1 (.t 39), none⟩,
    ⟨(some 41), .mov (.t 1), none⟩,
    ⟨(some 42), .bin .eql (.t 40) (.t 41), none⟩]) spec_DataOf_b12)) spec_DataOf_b11)
def spec_DataOf_b14 : HCode :=
  (.cond (.t 28) .skip (.exit 2))
def spec_DataOf_l9 : HCode :=
  (.seq (.seq (.reg [⟨(some 20), .mov (.t 6), none⟩,
    ⟨(some 21), .faddr 0 (.t 2), none⟩,
    ⟨(some 22), .load false 1 (.t 21), none⟩,
    ⟨(some 23), .mov (.t 5), none⟩,
    ⟨(some 24), .iaddr 2 (.t 22) (.t 23), none⟩,
    ⟨(some 25), .faddr 1 (.t 24), none⟩,
    ⟨(some 26), .load false 1 (.t 25), none⟩,
    ⟨(some 27), .len (.t 26), none⟩,
    ⟨(some 28), .bin .lss (.t 20) (.t 27), none⟩]) spec_DataOf_b14) spec_DataOf_b10)
def spec_DataOf_b8 : HCode :=
  (.block 2 (.loop spec_DataOf_l9))
def spec_DataOf_b6 : HCode :=
  (.seq (.block 1 (.seq (.reg [⟨(some 6), .mov (.c (.int .i64 0)), none⟩]) spec_DataOf_b8)) spec_DataOf_b7)
def spec_DataOf_b15 : HCode :=
  (.cond (.t 17) .skip (.exit 0))
def spec_DataOf_l5 : HCode :=
  (.seq (.seq (.reg [⟨(some 13), .mov (.t 5), none⟩,
    ⟨(some 14), .faddr 0 (.t 2), none⟩,
    ⟨(some 15), .load false 1 (.t 14), none⟩,
    ⟨(some 16), .len (.t 15), none⟩,
    ⟨(some 17), .bin .lss (.t 13) (.t 16), none⟩]) spec_DataOf_b15) spec_DataOf_b6)
def spec_DataOf_b4 : HCode :=
  (.block 0 (.loop spec_DataOf_l5))
def spec_DataOf_b2 : HCode :=
  (.seq (.seq (.reg [⟨(some 5), .mov (.c (.int .i64 0)), none⟩]) spec_DataOf_b4) spec_DataOf_b3)
def spec_DataOf_b17 : HCode :=
  (.seq (.reg [⟨(some 4), .mov (.c (.str ⟨⟨[66, 111, 111, 108]⟩⟩)), none⟩]) .ret)
def spec_DataOf_b16 : HCode :=
  (.cond (.t 12) spec_DataOf_b17 .skip)
def spec_DataOf_b1 : HCode :=
  (.seq (.seq (.reg [⟨(some 7), .mov (.t 1), none⟩,
    ⟨(some 8), .bin .eql (.t 7) (.c (.str ⟨⟨[84, 114, 117, 101]⟩⟩)), none⟩,
    ⟨(some 9), .mov (.t 8), none⟩,
    ⟨(some 10), .mov (.t 1), (some (9, false))⟩,
    ⟨(some 11), .bin .eql (.t 10) (.c (.str ⟨⟨[70, 97, 108, 115, 101]⟩⟩)), (some (9, false))⟩,
    ⟨(some 12), .pick (.t 9) (.c (.bool true)) (.t 11), none⟩]) spec_DataOf_b16) spec_DataOf_b2)
def spec_DataOf_b0 : HCode :=
  (.seq (.reg [⟨(some 2), .box (.t 0), none⟩,
    ⟨(some 4), .mov (.c (.str ⟨⟨[]⟩⟩)), none⟩]) spec_DataOf_b1)
def spec_DataOf : HFunc :=
  { np := 2, ntmps := 49, results := [(4, none)], body := spec_DataOf_b0 }
def laws_FnExactDataOf_b10 : HCode :=
  (.seq (.reg [⟨(some 4), .mov (.c (.bool true)), none⟩]) .ret)
def laws_FnExactDataOf_b12 : HCode :=
  (.seq (.reg [⟨(some 4), .mov (.c (.bool false)), none⟩]) .ret)
def laws_FnExactDataOf_b11 : HCode :=
  (.cond (.t 33) laws_FnExactDataOf_b12 .skip)
def laws_FnExactDataOf_b9 : HCode :=
  (.seq (.seq (.dreg (.q ⟨(some 29), .load true 2 (.t 7), none⟩ (.q ⟨(some 30), .load true 2 (.t 2), none⟩ (.l ⟨(some 31), .call (.c (.fn F.laws_toProg [] [])) [(.t 30)], none⟩ [⟨(some 29), .load true 2 (.t 7), none⟩] (.l ⟨(some 32), .call (.c (.fn F.laws_eqProg [] [])) [(.t 29), (.t 31)], none⟩ [] (.q ⟨(some 33), .not (.t 32), none⟩ .done) .none) .none)))) laws_FnExactDataOf_b11) laws_FnExactDataOf_b10)
def laws_FnExactDataOf_b14 : HCode :=
  (.seq (.reg [⟨(some 4), .mov (.c (.bool false)), none⟩]) .ret)
def laws_FnExactDataOf_b13 : HCode :=
  (.cond (.t 28) laws_FnExactDataOf_b14 .skip)
def laws_FnExactDataOf_b8 : HCode :=
  (.seq (.seq (.reg [⟨(some 26), .mov (.t 8), none⟩,
    ⟨(some 27), .mov (.t 6), none⟩,
    ⟨(some 28), .bin .neq (.t 26) (.t 27), none⟩]) laws_FnExactDataOf_b13) laws_FnExactDataOf_b9)
def laws_FnExactDataOf_b7 : HCode :=
  (.seq (.reg [⟨(some 23), .load true 2 (.t 7), none⟩,
    ⟨(some 24), .mov (.t 1), none⟩,
    ⟨(some 25), .call (.c (.fn F.impl_DataOf [] [])) [(.t 23), (.t 24)], none⟩,
    ⟨(some 8), .mov (.t 25), none⟩]) laws_FnExactDataOf_b8)
def laws_FnExactDataOf_b6 : HCode :=
  (.seq (.reg [⟨(some 21), .load true 2 (.t 2), none⟩,
    ⟨(some 22), .call (.c (.fn F.laws_toProg [] [])) [(.t 21)], none⟩,
    ⟨(some 7), .alloc (.agg [.nils, .nils]), none⟩,
    ⟨none, .store 2 (.t 7) (.t 22), none⟩]) laws_FnExactDataOf_b7)
def laws_FnExactDataOf_b5 : HCode :=
  (.seq (.reg [⟨(some 17), .load true 2 (.t 2), none⟩,
    ⟨(some 18), .call (.c (.fn F.laws_toProg [] [])) [(.t 17)], none⟩,
    ⟨(some 19), .mov (.t 1), none⟩,
    ⟨(some 20), .call (.c (.fn F.spec_DataOf [] [])) [(.t 18), (.t 19)], none⟩,
    ⟨(some 6), .mov (.t 20), none⟩]) laws_FnExactDataOf_b6)
def laws_FnExactDataOf_b16 : HCode :=
  (.seq (.reg [⟨(some 4), .mov (.c (.bool true)), none⟩]) .ret)
def laws_FnExactDataOf_b15 : HCode :=
  (.cond (.t 16) laws_FnExactDataOf_b16 .skip)
def laws_FnExactDataOf_b4 : HCode :=
  (.seq (.seq (.reg [⟨(some 15), .mov (.t 5), none⟩,
    ⟨(some 16), .bin .lss (.t 15) (.c (.int .i64 0)), none⟩]) laws_FnExactDataOf_b15) laws_FnExactDataOf_b5)
def laws_FnExactDataOf_b3 : HCode :=
  (.seq (.reg [⟨(some 12), .load true 2 (.t 2), none⟩,
    ⟨(some 13), .mov (.t 5), none⟩,
    ⟨(some 14), .call (.c (.fn F.laws_szProg [] [])) [(.t 12), (.t 13)], none⟩,
    ⟨(some 5), .mov (.t 14), none⟩]) laws_FnExactDataOf_b4)
def laws_FnExactDataOf_b2 : HCode :=
  (.seq (.reg [⟨(some 5), .mov (.c (.int .i64 1048576)), none⟩]) laws_FnExactDataOf_b3)
def laws_FnExactDataOf_b18 : HCode :=
  (.seq (.reg [⟨(some 4), .mov (.c (.bool true)), none⟩]) .ret)
def laws_FnExactDataOf_b17 : HCode :=
  (.cond (.t 11) laws_FnExactDataOf_b18 .skip)
def laws_FnExactDataOf_b1 : HCode :=
  (.seq (.seq (.reg [⟨(some 9), .mov (.t 1), none⟩,
    ⟨(some 10), .slen (.t 9), none⟩,
    ⟨(some 11), .bin .gtr (.t 10) (.c (.int .i64 1048576)), none⟩]) laws_FnExactDataOf_b17) laws_FnExactDataOf_b2)
def laws_FnExactDataOf_b0 : HCode :=
  (.seq (.reg [⟨(some 2), .box (.t 0), none⟩,
    ⟨(some 4), .mov (.c (.bool false)), none⟩]) laws_FnExactDataOf_b1)
def laws_FnExactDataOf : HFunc :=
  { np := 2, ntmps := 34, results := [(4, none)], body := laws_FnExactDataOf_b0 }
end H
namespace S
noncomputable abbrev P : Program := Go.Proofs.Try.prog
theorem impl_conOf : stripF P F.impl_conOf = some H.impl_conOf := by kernel_rfl
theorem impl_isBool : stripF P F.impl_isBool = some H.impl_isBool := by kernel_rfl
theorem impl_ArityOf : stripF P F.impl_ArityOf = some H.impl_ArityOf := by kernel_rfl
theorem impl_DataOf : stripF P F.impl_DataOf = some H.impl_DataOf := by kernel_rfl
theorem laws_eqTy : stripF P F.laws_eqTy = some H.laws_eqTy := by kernel_rfl
theorem laws_eqTyS : stripF P F.laws_eqTyS = some H.laws_eqTyS := by kernel_rfl
theorem laws_eqCon : stripF P F.laws_eqCon = some H.laws_eqCon := by kernel_rfl
theorem laws_eqConS : stripF P F.laws_eqConS = some H.laws_eqConS := by kernel_rfl
theorem laws_eqData : stripF P F.laws_eqData = some H.laws_eqData := by kernel_rfl
theorem laws_eqDataS : stripF P F.laws_eqDataS = some H.laws_eqDataS := by kernel_rfl
theorem laws_eqStringS : stripF P F.laws_eqStringS = some H.laws_eqStringS := by kernel_rfl
theorem laws_eqAlt : stripF P F.laws_eqAlt = some H.laws_eqAlt := by kernel_rfl
theorem laws_eqAltS : stripF P F.laws_eqAltS = some H.laws_eqAltS := by kernel_rfl
theorem laws_eqDec : stripF P F.laws_eqDec = some H.laws_eqDec := by kernel_rfl
theorem laws_eqDecS : stripF P F.laws_eqDecS = some H.laws_eqDecS := by kernel_rfl
theorem laws_eqExp : stripF P F.laws_eqExp = some H.laws_eqExp := by kernel_rfl
theorem laws_eqExpS : stripF P F.laws_eqExpS = some H.laws_eqExpS := by kernel_rfl
theorem laws_eqProg : stripF P F.laws_eqProg = some H.laws_eqProg := by kernel_rfl
theorem spec_ArityOf : stripF P F.spec_ArityOf = some H.spec_ArityOf := by kernel_rfl
theorem laws_toTy : stripF P F.laws_toTy = some H.laws_toTy := by kernel_rfl
theorem laws_toTyS : stripF P F.laws_toTyS = some H.laws_toTyS := by kernel_rfl
theorem laws_toCon : stripF P F.laws_toCon = some H.laws_toCon := by kernel_rfl
theorem laws_toConS : stripF P F.laws_toConS = some H.laws_toConS := by kernel_rfl
theorem laws_toData : stripF P F.laws_toData = some H.laws_toData := by kernel_rfl
theorem laws_toDataS : stripF P F.laws_toDataS = some H.laws_toDataS := by kernel_rfl
theorem laws_toStringS : stripF P F.laws_toStringS = some H.laws_toStringS := by kernel_rfl
theorem laws_toAlt : stripF P F.laws_toAlt = some H.laws_toAlt := by kernel_rfl
theorem laws_toAltS : stripF P F.laws_toAltS = some H.laws_toAltS := by kernel_rfl
theorem laws_toDec : stripF P F.laws_toDec = some H.laws_toDec := by kernel_rfl
theorem laws_toDecS : stripF P F.laws_toDecS = some H.laws_toDecS := by kernel_rfl
theorem laws_toExp : stripF P F.laws_toExp = some H.laws_toExp := by kernel_rfl
theorem laws_toExpS : stripF P F.laws_toExpS = some H.laws_toExpS := by kernel_rfl
theorem laws_toProg : stripF P F.laws_toProg = some H.laws_toProg := by kernel_rfl
theorem laws_szTy : stripF P F.laws_szTy = some H.laws_szTy := by kernel_rfl
theorem laws_szTyS : stripF P F.laws_szTyS = some H.laws_szTyS := by kernel_rfl
theorem laws_szCon : stripF P F.laws_szCon = some H.laws_szCon := by kernel_rfl
theorem laws_szConS : stripF P F.laws_szConS = some H.laws_szConS := by kernel_rfl
theorem laws_szData : stripF P F.laws_szData = some H.laws_szData := by kernel_rfl
theorem laws_szDataS : stripF P F.laws_szDataS = some H.laws_szDataS := by kernel_rfl
theorem laws_szStringS : stripF P F.laws_szStringS = some H.laws_szStringS := by kernel_rfl
theorem laws_szAlt : stripF P F.laws_szAlt = some H.laws_szAlt := by kernel_rfl
theorem laws_szAltS : stripF P F.laws_szAltS = some H.laws_szAltS := by kernel_rfl
theorem laws_szDec : stripF P F.laws_szDec = some H.laws_szDec := by kernel_rfl
theorem laws_szDecS : stripF P F.laws_szDecS = some H.laws_szDecS := by kernel_rfl
theorem laws_szExp : stripF P F.laws_szExp = some H.laws_szExp := by kernel_rfl
theorem laws_szExpS : stripF P F.laws_szExpS = some H.laws_szExpS := by kernel_rfl
theorem laws_szProg : stripF P F.laws_szProg = some H.laws_szProg := by kernel_rfl
theorem laws_FnExactArityOf : stripF P F.laws_FnExactArityOf = some H.laws_FnExactArityOf := by kernel_rfl
theorem spec_DataOf : stripF P F.spec_DataOf = some H.spec_DataOf := by kernel_rfl
theorem laws_FnExactDataOf : stripF P F.laws_FnExactDataOf = some H.laws_FnExactDataOf := by kernel_rfl
end S
end W
