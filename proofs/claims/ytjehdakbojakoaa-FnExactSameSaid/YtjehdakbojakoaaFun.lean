import Derived.Test.YtjehdakbojakoaaHLVc
import Derived.KernelRfl
import Derived.Test.YtjehdakbojakoaaProg
namespace T
open Go HL
set_option maxRecDepth 1000000
namespace F
abbrev main_main : Nat := 0
abbrev gosem_cut : Nat := 1
abbrev gosem_cut_init : Nat := 2
abbrev laws_FnExactConstants : Nat := 3
abbrev laws_FnExactGreatOk : Nat := 4
abbrev laws_FnExactNameOk : Nat := 5
abbrev laws_FnExactEnded : Nat := 6
abbrev laws_FnExactDepth : Nat := 7
abbrev laws_FnExactSame : Nat := 8
abbrev spec_GreatOk : Nat := 9
abbrev impl_GreatOk : Nat := 10
abbrev spec_NameOk : Nat := 11
abbrev impl_NameOk : Nat := 12
abbrev laws_szRes : Nat := 13
abbrev spec_Ended : Nat := 14
abbrev laws_toRes : Nat := 15
abbrev impl_Ended : Nat := 16
abbrev laws_eqRes : Nat := 17
abbrev spec_Depth : Nat := 18
abbrev impl_Depth : Nat := 19
abbrev spec_Same : Nat := 20
abbrev impl_Same : Nat := 21
abbrev spec_l1Letters : Nat := 22
abbrev spec_l1Large : Nat := 23
abbrev impl_wordLike : Nat := 24
abbrev spec_l1Small : Nat := 25
abbrev spec_l1IsWord : Nat := 26
abbrev slices_Contains_string : Nat := 27
abbrev impl_words : Nat := 28
abbrev laws_szResS : Nat := 29
abbrev laws_toResS : Nat := 30
abbrev laws_eqResS : Nat := 31
abbrev slices_EqualFunc_impl_Res : Nat := 32
abbrev spec_l1Letter : Nat := 33
abbrev spec_l1In : Nat := 34
abbrev impl_isLetter : Nat := 35
abbrev impl_isDigit : Nat := 36
abbrev impl_in : Nat := 37
abbrev spec_l1Has : Nat := 38
abbrev slices_Index_string : Nat := 39
abbrev spec_l1Digit : Nat := 40
abbrev runtime_boundsError_Error : Nat := 41
abbrev runtime_boundsError_RuntimeError : Nat := 42
abbrev runtime_errorString_Error : Nat := 43
abbrev runtime_errorString_RuntimeError : Nat := 44
abbrev runtime_plainError_Error : Nat := 45
abbrev runtime_plainError_RuntimeError : Nat := 46
abbrev runtime_errorAddressString_Error : Nat := 47
abbrev runtime_errorAddressString_RuntimeError : Nat := 48
abbrev runtime_TypeAssertionError_Error : Nat := 49
abbrev runtime_TypeAssertionError_RuntimeError : Nat := 50
abbrev runtime_PanicNilError_Error : Nat := 51
abbrev runtime_PanicNilError_RuntimeError : Nat := 52
abbrev internal_abi_Type_Align : Nat := 53
abbrev internal_runtime_maps_unhashableTypeError_Error : Nat := 54
abbrev internal_runtime_maps_unhashableTypeError_RuntimeError : Nat := 55
abbrev internal_abi_Kind_String : Nat := 56
end F
namespace H
def laws_FnExactEnded : HFunc :=
  { np := 1, ntmps := 27, results := [(2, none)], body := (HCode.reg [⟨some 1, .box (.t 0), none⟩,
    ⟨some 2, .mov (.c (.bool false)), none⟩]).seq ((HCode.reg [⟨some 3, .mov (.c (.int .i64 (1048576))), none⟩]).seq ((HCode.reg [⟨some 7, .load true 4 (.t 1), none⟩,
    ⟨some 8, .mov (.t 3), none⟩,
    ⟨some 9, .call (.c (.fn F.laws_szRes [] [])) [.t 7, .t 8], none⟩,
    ⟨some 3, .mov (.t 9), none⟩]).seq (((HCode.reg [⟨some 10, .mov (.t 3), none⟩,
    ⟨some 11, .bin .lss (.t 10) (.c (.int .i64 (0))), none⟩]).seq (HCode.cond (.t 11) ((HCode.reg [⟨some 2, .mov (.c (.bool true)), none⟩]).seq HCode.ret) HCode.skip)).seq ((HCode.reg [⟨some 12, .load true 4 (.t 1), none⟩,
    ⟨some 13, .call (.c (.fn F.laws_toRes [] [])) [.t 12], none⟩,
    ⟨some 14, .call (.c (.fn F.spec_Ended [] [])) [.t 13], none⟩,
    ⟨some 4, .mov (.t 14), none⟩]).seq ((HCode.reg [⟨some 15, .load true 4 (.t 1), none⟩,
    ⟨some 16, .call (.c (.fn F.laws_toRes [] [])) [.t 15], none⟩,
    ⟨some 5, .alloc (.agg [.int .i64 (0), .str
    ⟨⟨[]⟩⟩, .int .i64 (0), .nils]), none⟩,
    ⟨none, .store 4 (.t 5) (.t 16), none⟩]).seq ((HCode.reg [⟨some 17, .load true 4 (.t 5), none⟩,
    ⟨some 18, .call (.c (.fn F.impl_Ended [] [])) [.t 17], none⟩,
    ⟨some 6, .mov (.t 18), none⟩]).seq (((HCode.reg [⟨some 19, .mov (.t 6), none⟩,
    ⟨some 20, .mov (.t 4), none⟩,
    ⟨some 21, .bbin .neq (.t 19) (.t 20), none⟩]).seq (HCode.cond (.t 21) ((HCode.reg [⟨some 2, .mov (.c (.bool false)), none⟩]).seq HCode.ret) HCode.skip)).seq (((HCode.dreg (DPlan.q
    ⟨some 22, .load true 4 (.t 5), none⟩ (DPlan.q
    ⟨some 23, .load true 4 (.t 1), none⟩ (DPlan.l
    ⟨some 24, .call (.c (.fn F.laws_toRes [] [])) [.t 23], none⟩ [⟨some 22, .load true 4 (.t 5), none⟩] (DPlan.l
    ⟨some 25, .call (.c (.fn F.laws_eqRes [] [])) [.t 22, .t 24], none⟩ [] (DPlan.q
    ⟨some 26, .not (.t 25), none⟩ DPlan.done) DPlan.none) DPlan.none)))).seq (HCode.cond (.t 26) ((HCode.reg [⟨some 2, .mov (.c (.bool false)), none⟩]).seq HCode.ret) HCode.skip)).seq ((HCode.reg [⟨some 2, .mov (.c (.bool true)), none⟩]).seq HCode.ret))))))))) }
def laws_FnExactDepth : HFunc :=
  { np := 1, ntmps := 27, results := [(2, none)], body := (HCode.reg [⟨some 1, .box (.t 0), none⟩,
    ⟨some 2, .mov (.c (.bool false)), none⟩]).seq ((HCode.reg [⟨some 3, .mov (.c (.int .i64 (1048576))), none⟩]).seq ((HCode.reg [⟨some 7, .load true 4 (.t 1), none⟩,
    ⟨some 8, .mov (.t 3), none⟩,
    ⟨some 9, .call (.c (.fn F.laws_szRes [] [])) [.t 7, .t 8], none⟩,
    ⟨some 3, .mov (.t 9), none⟩]).seq (((HCode.reg [⟨some 10, .mov (.t 3), none⟩,
    ⟨some 11, .bin .lss (.t 10) (.c (.int .i64 (0))), none⟩]).seq (HCode.cond (.t 11) ((HCode.reg [⟨some 2, .mov (.c (.bool true)), none⟩]).seq HCode.ret) HCode.skip)).seq ((HCode.reg [⟨some 12, .load true 4 (.t 1), none⟩,
    ⟨some 13, .call (.c (.fn F.laws_toRes [] [])) [.t 12], none⟩,
    ⟨some 14, .call (.c (.fn F.spec_Depth [] [])) [.t 13], none⟩,
    ⟨some 4, .mov (.t 14), none⟩]).seq ((HCode.reg [⟨some 15, .load true 4 (.t 1), none⟩,
    ⟨some 16, .call (.c (.fn F.laws_toRes [] [])) [.t 15], none⟩,
    ⟨some 5, .alloc (.agg [.int .i64 (0), .str
    ⟨⟨[]⟩⟩, .int .i64 (0), .nils]), none⟩,
    ⟨none, .store 4 (.t 5) (.t 16), none⟩]).seq ((HCode.reg [⟨some 17, .load true 4 (.t 5), none⟩,
    ⟨some 18, .call (.c (.fn F.impl_Depth [] [])) [.t 17], none⟩,
    ⟨some 6, .mov (.t 18), none⟩]).seq (((HCode.reg [⟨some 19, .mov (.t 6), none⟩,
    ⟨some 20, .mov (.t 4), none⟩,
    ⟨some 21, .bin .neq (.t 19) (.t 20), none⟩]).seq (HCode.cond (.t 21) ((HCode.reg [⟨some 2, .mov (.c (.bool false)), none⟩]).seq HCode.ret) HCode.skip)).seq (((HCode.dreg (DPlan.q
    ⟨some 22, .load true 4 (.t 5), none⟩ (DPlan.q
    ⟨some 23, .load true 4 (.t 1), none⟩ (DPlan.l
    ⟨some 24, .call (.c (.fn F.laws_toRes [] [])) [.t 23], none⟩ [⟨some 22, .load true 4 (.t 5), none⟩] (DPlan.l
    ⟨some 25, .call (.c (.fn F.laws_eqRes [] [])) [.t 22, .t 24], none⟩ [] (DPlan.q
    ⟨some 26, .not (.t 25), none⟩ DPlan.done) DPlan.none) DPlan.none)))).seq (HCode.cond (.t 26) ((HCode.reg [⟨some 2, .mov (.c (.bool false)), none⟩]).seq HCode.ret) HCode.skip)).seq ((HCode.reg [⟨some 2, .mov (.c (.bool true)), none⟩]).seq HCode.ret))))))))) }
def laws_FnExactSame : HFunc :=
  { np := 2, ntmps := 45, results := [(4, none)], body := (HCode.reg [⟨some 2, .box (.t 0), none⟩,
    ⟨some 3, .box (.t 1), none⟩,
    ⟨some 4, .mov (.c (.bool false)), none⟩]).seq ((HCode.reg [⟨some 5, .mov (.c (.int .i64 (1048576))), none⟩]).seq ((HCode.reg [⟨some 10, .load true 4 (.t 2), none⟩,
    ⟨some 11, .mov (.t 5), none⟩,
    ⟨some 12, .call (.c (.fn F.laws_szRes [] [])) [.t 10, .t 11], none⟩,
    ⟨some 5, .mov (.t 12), none⟩]).seq (((HCode.reg [⟨some 13, .mov (.t 5), none⟩,
    ⟨some 14, .bin .lss (.t 13) (.c (.int .i64 (0))), none⟩]).seq (HCode.cond (.t 14) ((HCode.reg [⟨some 4, .mov (.c (.bool true)), none⟩]).seq HCode.ret) HCode.skip)).seq ((HCode.reg [⟨some 15, .load true 4 (.t 3), none⟩,
    ⟨some 16, .mov (.t 5), none⟩,
    ⟨some 17, .call (.c (.fn F.laws_szRes [] [])) [.t 15, .t 16], none⟩,
    ⟨some 5, .mov (.t 17), none⟩]).seq (((HCode.reg [⟨some 18, .mov (.t 5), none⟩,
    ⟨some 19, .bin .lss (.t 18) (.c (.int .i64 (0))), none⟩]).seq (HCode.cond (.t 19) ((HCode.reg [⟨some 4, .mov (.c (.bool true)), none⟩]).seq HCode.ret) HCode.skip)).seq ((HCode.dreg (DPlan.q
    ⟨some 20, .load true 4 (.t 2), none⟩ (DPlan.q
    ⟨some 22, .load true 4 (.t 3), none⟩ (DPlan.l
    ⟨some 21, .call (.c (.fn F.laws_toRes [] [])) [.t 20], none⟩ [⟨some 22, .load true 4 (.t 3), none⟩] (DPlan.l
    ⟨some 23, .call (.c (.fn F.laws_toRes [] [])) [.t 22], none⟩ [] (DPlan.l
    ⟨some 24, .call (.c (.fn F.spec_Same [] [])) [.t 21, .t 23], none⟩ [] (DPlan.q
    ⟨some 6, .mov (.t 24), none⟩ DPlan.done) DPlan.none) DPlan.none) DPlan.none)))).seq ((HCode.reg [⟨some 25, .load true 4 (.t 2), none⟩,
    ⟨some 26, .call (.c (.fn F.laws_toRes [] [])) [.t 25], none⟩,
    ⟨some 7, .alloc (.agg [.int .i64 (0), .str
    ⟨⟨[]⟩⟩, .int .i64 (0), .nils]), none⟩,
    ⟨none, .store 4 (.t 7) (.t 26), none⟩]).seq ((HCode.reg [⟨some 27, .load true 4 (.t 3), none⟩,
    ⟨some 28, .call (.c (.fn F.laws_toRes [] [])) [.t 27], none⟩,
    ⟨some 8, .alloc (.agg [.int .i64 (0), .str
    ⟨⟨[]⟩⟩, .int .i64 (0), .nils]), none⟩,
    ⟨none, .store 4 (.t 8) (.t 28), none⟩]).seq ((HCode.reg [⟨some 29, .load true 4 (.t 7), none⟩,
    ⟨some 30, .load true 4 (.t 8), none⟩,
    ⟨some 31, .call (.c (.fn F.impl_Same [] [])) [.t 29, .t 30], none⟩,
    ⟨some 9, .mov (.t 31), none⟩]).seq (((HCode.reg [⟨some 32, .mov (.t 9), none⟩,
    ⟨some 33, .mov (.t 6), none⟩,
    ⟨some 34, .bbin .neq (.t 32) (.t 33), none⟩]).seq (HCode.cond (.t 34) ((HCode.reg [⟨some 4, .mov (.c (.bool false)), none⟩]).seq HCode.ret) HCode.skip)).seq (((HCode.dreg (DPlan.q
    ⟨some 35, .load true 4 (.t 7), none⟩ (DPlan.q
    ⟨some 36, .load true 4 (.t 2), none⟩ (DPlan.l
    ⟨some 37, .call (.c (.fn F.laws_toRes [] [])) [.t 36], none⟩ [⟨some 35, .load true 4 (.t 7), none⟩] (DPlan.l
    ⟨some 38, .call (.c (.fn F.laws_eqRes [] [])) [.t 35, .t 37], none⟩ [] (DPlan.q
    ⟨some 39, .not (.t 38), none⟩ DPlan.done) DPlan.none) DPlan.none)))).seq (HCode.cond (.t 39) ((HCode.reg [⟨some 4, .mov (.c (.bool false)), none⟩]).seq HCode.ret) HCode.skip)).seq (((HCode.dreg (DPlan.q
    ⟨some 40, .load true 4 (.t 8), none⟩ (DPlan.q
    ⟨some 41, .load true 4 (.t 3), none⟩ (DPlan.l
    ⟨some 42, .call (.c (.fn F.laws_toRes [] [])) [.t 41], none⟩ [⟨some 40, .load true 4 (.t 8), none⟩] (DPlan.l
    ⟨some 43, .call (.c (.fn F.laws_eqRes [] [])) [.t 40, .t 42], none⟩ [] (DPlan.q
    ⟨some 44, .not (.t 43), none⟩ DPlan.done) DPlan.none) DPlan.none)))).seq (HCode.cond (.t 44) ((HCode.reg [⟨some 4, .mov (.c (.bool false)), none⟩]).seq HCode.ret) HCode.skip)).seq ((HCode.reg [⟨some 4, .mov (.c (.bool true)), none⟩]).seq HCode.ret))))))))))))) }
def laws_szRes : HFunc :=
  { np := 2, ntmps := 19, results := [(4, none)], body := (HCode.reg [⟨some 2, .box (.t 0), none⟩,
    ⟨some 4, .mov (.c (.int .i64 (0))), none⟩]).seq ((HCode.reg [⟨some 5, .mov (.t 1), none⟩,
    ⟨some 6, .faddr 1 (.t 2), none⟩,
    ⟨some 7, .load false 1 (.t 6), none⟩,
    ⟨some 8, .slen (.t 7), none⟩,
    ⟨some 9, .bin .sub (.t 5) (.t 8), none⟩,
    ⟨some 1, .mov (.t 9), none⟩]).seq (((HCode.reg [⟨some 10, .mov (.t 1), none⟩,
    ⟨some 11, .bin .lss (.t 10) (.c (.int .i64 (0))), none⟩]).seq (HCode.cond (.t 11) ((HCode.reg [⟨some 4, .mov (.c (.int .i64 (-1))), none⟩]).seq HCode.ret) HCode.skip)).seq ((HCode.reg [⟨some 12, .faddr 3 (.t 2), none⟩,
    ⟨some 13, .load false 1 (.t 12), none⟩,
    ⟨some 14, .mov (.t 1), none⟩,
    ⟨some 15, .call (.c (.fn F.laws_szResS [] [])) [.t 13, .t 14], none⟩,
    ⟨some 1, .mov (.t 15), none⟩]).seq (((HCode.reg [⟨some 16, .mov (.t 1), none⟩,
    ⟨some 17, .bin .lss (.t 16) (.c (.int .i64 (0))), none⟩]).seq (HCode.cond (.t 17) ((HCode.reg [⟨some 4, .mov (.c (.int .i64 (-1))), none⟩]).seq HCode.ret) HCode.skip)).seq ((HCode.reg [⟨some 18, .mov (.t 1), none⟩,
    ⟨some 4, .mov (.t 18), none⟩]).seq HCode.ret))))) }
def spec_Ended : HFunc :=
  { np := 1, ntmps := 6, results := [(2, none)], body := (HCode.reg [⟨some 1, .box (.t 0), none⟩,
    ⟨some 2, .mov (.c (.bool false)), none⟩]).seq ((HCode.reg [⟨some 3, .faddr 0 (.t 1), none⟩,
    ⟨some 4, .load false 1 (.t 3), none⟩,
    ⟨some 5, .bin .neq (.t 4) (.c (.int .i64 (6))), none⟩,
    ⟨some 2, .mov (.t 5), none⟩]).seq HCode.ret) }
def laws_toRes : HFunc :=
  { np := 1, ntmps := 18, results := [(2, some (true, 4))], body := (HCode.reg [⟨some 1, .box (.t 0), none⟩,
    ⟨some 2, .alloc (.agg [.int .i64 (0), .str
    ⟨⟨[]⟩⟩, .int .i64 (0), .nils]), none⟩]).seq ((HCode.reg [⟨some 3, .alloc (.agg [.int .i64 (0), .str
    ⟨⟨[]⟩⟩, .int .i64 (0), .nils]), none⟩]).seq ((HCode.reg [⟨some 4, .faddr 0 (.t 1), none⟩,
    ⟨some 5, .load false 1 (.t 4), none⟩,
    ⟨some 6, .faddr 0 (.t 3), none⟩,
    ⟨none, .store 1 (.t 6) (.t 5), none⟩]).seq ((HCode.reg [⟨some 7, .faddr 1 (.t 1), none⟩,
    ⟨some 8, .load false 1 (.t 7), none⟩,
    ⟨some 9, .faddr 1 (.t 3), none⟩,
    ⟨none, .store 1 (.t 9) (.t 8), none⟩]).seq ((HCode.reg [⟨some 10, .faddr 2 (.t 1), none⟩,
    ⟨some 11, .load false 1 (.t 10), none⟩,
    ⟨some 12, .faddr 2 (.t 3), none⟩,
    ⟨none, .store 1 (.t 12) (.t 11), none⟩]).seq ((HCode.reg [⟨some 13, .faddr 3 (.t 1), none⟩,
    ⟨some 14, .load false 1 (.t 13), none⟩,
    ⟨some 15, .call (.c (.fn F.laws_toResS [] [])) [.t 14], none⟩,
    ⟨some 16, .faddr 3 (.t 3), none⟩,
    ⟨none, .store 1 (.t 16) (.t 15), none⟩]).seq ((HCode.reg [⟨some 17, .load true 4 (.t 3), none⟩,
    ⟨none, .store 4 (.t 2) (.t 17), none⟩]).seq HCode.ret)))))) }
def impl_Ended : HFunc :=
  { np := 1, ntmps := 6, results := [(2, none)], body := (HCode.reg [⟨some 1, .box (.t 0), none⟩,
    ⟨some 2, .mov (.c (.bool false)), none⟩]).seq ((HCode.reg [⟨some 3, .faddr 0 (.t 1), none⟩,
    ⟨some 4, .load false 1 (.t 3), none⟩,
    ⟨some 5, .bin .neq (.t 4) (.c (.int .i64 (6))), none⟩,
    ⟨some 2, .mov (.t 5), none⟩]).seq HCode.ret) }
def laws_eqRes : HFunc :=
  { np := 2, ntmps := 26, results := [(4, none)], body := (HCode.reg [⟨some 2, .box (.t 0), none⟩,
    ⟨some 3, .box (.t 1), none⟩,
    ⟨some 4, .mov (.c (.bool false)), none⟩]).seq (((HCode.reg [⟨some 5, .faddr 0 (.t 2), none⟩,
    ⟨some 6, .load false 1 (.t 5), none⟩,
    ⟨some 7, .faddr 0 (.t 3), none⟩,
    ⟨some 8, .load false 1 (.t 7), none⟩,
    ⟨some 9, .bin .neq (.t 6) (.t 8), none⟩]).seq (HCode.cond (.t 9) ((HCode.reg [⟨some 4, .mov (.c (.bool false)), none⟩]).seq HCode.ret) HCode.skip)).seq (((HCode.reg [⟨some 10, .faddr 1 (.t 2), none⟩,
    ⟨some 11, .load false 1 (.t 10), none⟩,
    ⟨some 12, .faddr 1 (.t 3), none⟩,
    ⟨some 13, .load false 1 (.t 12), none⟩,
    ⟨some 14, .bin .neq (.t 11) (.t 13), none⟩]).seq (HCode.cond (.t 14) ((HCode.reg [⟨some 4, .mov (.c (.bool false)), none⟩]).seq HCode.ret) HCode.skip)).seq (((HCode.reg [⟨some 15, .faddr 2 (.t 2), none⟩,
    ⟨some 16, .load false 1 (.t 15), none⟩,
    ⟨some 17, .faddr 2 (.t 3), none⟩,
    ⟨some 18, .load false 1 (.t 17), none⟩,
    ⟨some 19, .bin .neq (.t 16) (.t 18), none⟩]).seq (HCode.cond (.t 19) ((HCode.reg [⟨some 4, .mov (.c (.bool false)), none⟩]).seq HCode.ret) HCode.skip)).seq (((HCode.reg [⟨some 20, .faddr 3 (.t 2), none⟩,
    ⟨some 21, .load false 1 (.t 20), none⟩,
    ⟨some 22, .faddr 3 (.t 3), none⟩,
    ⟨some 23, .load false 1 (.t 22), none⟩,
    ⟨some 24, .call (.c (.fn F.laws_eqResS [] [])) [.t 21, .t 23], none⟩,
    ⟨some 25, .not (.t 24), none⟩]).seq (HCode.cond (.t 25) ((HCode.reg [⟨some 4, .mov (.c (.bool false)), none⟩]).seq HCode.ret) HCode.skip)).seq ((HCode.reg [⟨some 4, .mov (.c (.bool true)), none⟩]).seq HCode.ret))))) }
def spec_Depth : HFunc :=
  { np := 1, ntmps := 25, results := [(2, none)], body := (HCode.reg [⟨some 1, .box (.t 0), none⟩,
    ⟨some 2, .mov (.c (.int .i64 (0))), none⟩]).seq ((HCode.reg [⟨some 3, .mov (.c (.int .i64 (0))), none⟩]).seq (((HCode.reg [⟨some 4, .mov (.c (.int .i64 (0))), none⟩]).seq (HCode.block 0 (((HCode.reg [⟨some 6, .mov (.t 4), none⟩,
    ⟨some 7, .faddr 3 (.t 1), none⟩,
    ⟨some 8, .load false 1 (.t 7), none⟩,
    ⟨some 9, .len (.t 8), none⟩,
    ⟨some 10, .bin .lss (.t 6) (.t 9), none⟩]).seq (HCode.cond (.t 10) HCode.skip (HCode.exit 0))).seq ((HCode.block 1 ((HCode.reg [⟨some 13, .faddr 3 (.t 1), none⟩,
    ⟨some 14, .load false 1 (.t 13), none⟩,
    ⟨some 15, .mov (.t 4), none⟩,
    ⟨some 16, .iaddr 4 (.t 14) (.t 15), none⟩,
    ⟨some 17, .load true 4 (.t 16), none⟩,
    ⟨some 18, .call (.c (.fn F.spec_Depth [] [])) [.t 17], none⟩,
    ⟨some 5, .mov (.t 18), none⟩]).seq ((HCode.reg [⟨some 19, .mov (.t 5), none⟩,
    ⟨some 20, .mov (.t 3), none⟩,
    ⟨some 21, .bin .gtr (.t 19) (.t 20), none⟩]).seq (HCode.cond (.t 21) (HCode.reg [⟨some 22, .mov (.t 5), none⟩,
    ⟨some 3, .mov (.t 22), none⟩]) HCode.skip)))).seq (HCode.reg [⟨some 11, .mov (.t 4), none⟩,
    ⟨some 12, .bin .add (.t 11) (.c (.int .i64 (1))), none⟩,
    ⟨some 4, .mov (.t 12), none⟩]))).loop)).seq ((HCode.reg [⟨some 23, .mov (.t 3), none⟩,
    ⟨some 24, .bin .add (.t 23) (.c (.int .i64 (1))), none⟩,
    ⟨some 2, .mov (.t 24), none⟩]).seq HCode.ret))) }
def impl_Depth : HFunc :=
  { np := 1, ntmps := 20, results := [(2, none)], body := (HCode.reg [⟨some 1, .box (.t 0), none⟩,
    ⟨some 2, .mov (.c (.int .i64 (0))), none⟩]).seq ((HCode.reg [⟨some 3, .mov (.c (.int .i64 (0))), none⟩]).seq (((HCode.reg [⟨some 6, .faddr 3 (.t 1), none⟩,
    ⟨some 7, .load false 1 (.t 6), none⟩,
    ⟨some 8, .len (.t 7), none⟩,
    ⟨some 9, .mov (.c (.int .i64 (0))), none⟩]).seq (HCode.block 0 ((HCode.reg [⟨some 10, .bin .lss (.t 9) (.t 8), none⟩]).seq ((HCode.cond (.t 10) HCode.skip (HCode.exit 0)).seq ((HCode.block 1 ((HCode.reg [⟨some 11, .iaddr 4 (.t 7) (.t 9), none⟩,
    ⟨some 12, .load true 4 (.t 11), none⟩,
    ⟨some 5, .alloc (.agg [.int .i64 (0), .str
    ⟨⟨[]⟩⟩, .int .i64 (0), .nils]), none⟩,
    ⟨none, .store 4 (.t 5) (.t 12), none⟩]).seq (HCode.reg [⟨some 13, .mov (.t 3), none⟩,
    ⟨some 14, .load true 4 (.t 5), none⟩,
    ⟨some 15, .call (.c (.fn F.impl_Depth [] [])) [.t 14], none⟩,
    ⟨some 16, .max (.t 13) (.t 15), none⟩,
    ⟨some 3, .mov (.t 16), none⟩]))).seq (HCode.reg [⟨some 17, .bin .add (.t 9) (.c (.int .i64 (1))), none⟩,
    ⟨some 9, .mov (.t 17), none⟩])))).loop)).seq ((HCode.reg [⟨some 18, .mov (.t 3), none⟩,
    ⟨some 19, .bin .add (.t 18) (.c (.int .i64 (1))), none⟩,
    ⟨some 2, .mov (.t 19), none⟩]).seq HCode.ret))) }
def spec_Same : HFunc :=
  { np := 2, ntmps := 53, results := [(4, none)], body := (HCode.reg [⟨some 2, .box (.t 0), none⟩,
    ⟨some 3, .box (.t 1), none⟩,
    ⟨some 4, .mov (.c (.bool false)), none⟩]).seq (((HCode.reg [⟨some 6, .faddr 0 (.t 2), none⟩,
    ⟨some 7, .load false 1 (.t 6), none⟩,
    ⟨some 8, .faddr 0 (.t 3), none⟩,
    ⟨some 9, .load false 1 (.t 8), none⟩,
    ⟨some 10, .bin .neq (.t 7) (.t 9), none⟩,
    ⟨some 11, .mov (.t 10), none⟩,
    ⟨some 12, .faddr 1 (.t 2), some (11, false)⟩,
    ⟨some 13, .load false 1 (.t 12), some (11, false)⟩,
    ⟨some 14, .faddr 1 (.t 3), some (11, false)⟩,
    ⟨some 15, .load false 1 (.t 14), some (11, false)⟩,
    ⟨some 16, .bin .neq (.t 13) (.t 15), some (11, false)⟩,
    ⟨some 17, .pick (.t 11) (.c (.bool true)) (.t 16), none⟩,
    ⟨some 18, .mov (.t 17), none⟩,
    ⟨some 19, .faddr 2 (.t 2), some (18, false)⟩,
    ⟨some 20, .load false 1 (.t 19), some (18, false)⟩,
    ⟨some 21, .faddr 2 (.t 3), some (18, false)⟩,
    ⟨some 22, .load false 1 (.t 21), some (18, false)⟩,
    ⟨some 23, .bin .neq (.t 20) (.t 22), some (18, false)⟩,
    ⟨some 24, .pick (.t 18) (.c (.bool true)) (.t 23), none⟩,
    ⟨some 25, .mov (.t 24), none⟩,
    ⟨some 26, .faddr 3 (.t 2), some (25, false)⟩,
    ⟨some 27, .load false 1 (.t 26), some (25, false)⟩,
    ⟨some 28, .len (.t 27), some (25, false)⟩,
    ⟨some 29, .faddr 3 (.t 3), some (25, false)⟩,
    ⟨some 30, .load false 1 (.t 29), some (25, false)⟩,
    ⟨some 31, .len (.t 30), some (25, false)⟩,
    ⟨some 32, .bin .neq (.t 28) (.t 31), some (25, false)⟩,
    ⟨some 33, .pick (.t 25) (.c (.bool true)) (.t 32), none⟩]).seq (HCode.cond (.t 33) ((HCode.reg [⟨some 4, .mov (.c (.bool false)), none⟩]).seq HCode.ret) HCode.skip)).seq (((HCode.reg [⟨some 5, .mov (.c (.int .i64 (0))), none⟩]).seq (HCode.block 0 (((HCode.reg [⟨some 34, .mov (.t 5), none⟩,
    ⟨some 35, .faddr 3 (.t 2), none⟩,
    ⟨some 36, .load false 1 (.t 35), none⟩,
    ⟨some 37, .len (.t 36), none⟩,
    ⟨some 38, .bin .lss (.t 34) (.t 37), none⟩]).seq (HCode.cond (.t 38) HCode.skip (HCode.exit 0))).seq ((HCode.block 1 ((HCode.dreg (DPlan.q
    ⟨some 41, .faddr 3 (.t 2), none⟩ (DPlan.q
    ⟨some 42, .load false 1 (.t 41), none⟩ (DPlan.q
    ⟨some 43, .mov (.t 5), none⟩ (DPlan.q
    ⟨some 44, .iaddr 4 (.t 42) (.t 43), none⟩ (DPlan.q
    ⟨some 45, .load true 4 (.t 44), none⟩ (DPlan.q
    ⟨some 46, .faddr 3 (.t 3), none⟩ (DPlan.q
    ⟨some 47, .load false 1 (.t 46), none⟩ (DPlan.q
    ⟨some 48, .mov (.t 5), none⟩ (DPlan.q
    ⟨some 49, .iaddr 4 (.t 47) (.t 48), none⟩ (DPlan.q
    ⟨some 50, .load true 4 (.t 49), none⟩ (DPlan.l
    ⟨some 51, .call (.c (.fn F.spec_Same [] [])) [.t 45, .t 50], none⟩ [] (DPlan.q
    ⟨some 52, .not (.t 51), none⟩ DPlan.done) DPlan.none)))))))))))).seq (HCode.cond (.t 52) ((HCode.reg [⟨some 4, .mov (.c (.bool false)), none⟩]).seq HCode.ret) HCode.skip))).seq (HCode.reg [⟨some 39, .mov (.t 5), none⟩,
    ⟨some 40, .bin .add (.t 39) (.c (.int .i64 (1))), none⟩,
    ⟨some 5, .mov (.t 40), none⟩]))).loop)).seq ((HCode.reg [⟨some 4, .mov (.c (.bool true)), none⟩]).seq HCode.ret))) }
def impl_Same : HFunc :=
  { np := 2, ntmps := 31, results := [(4, none)], body := (HCode.reg [⟨some 2, .box (.t 0), none⟩,
    ⟨some 3, .box (.t 1), none⟩,
    ⟨some 4, .mov (.c (.bool false)), none⟩]).seq ((HCode.reg [⟨some 5, .faddr 0 (.t 2), none⟩,
    ⟨some 6, .load false 1 (.t 5), none⟩,
    ⟨some 7, .faddr 0 (.t 3), none⟩,
    ⟨some 8, .load false 1 (.t 7), none⟩,
    ⟨some 9, .bin .eql (.t 6) (.t 8), none⟩,
    ⟨some 10, .mov (.t 9), none⟩,
    ⟨some 11, .faddr 1 (.t 2), some (10, true)⟩,
    ⟨some 12, .load false 1 (.t 11), some (10, true)⟩,
    ⟨some 13, .faddr 1 (.t 3), some (10, true)⟩,
    ⟨some 14, .load false 1 (.t 13), some (10, true)⟩,
    ⟨some 15, .bin .eql (.t 12) (.t 14), some (10, true)⟩,
    ⟨some 16, .pick (.t 10) (.t 15) (.c (.bool false)), none⟩,
    ⟨some 17, .mov (.t 16), none⟩,
    ⟨some 18, .faddr 2 (.t 2), some (17, true)⟩,
    ⟨some 19, .load false 1 (.t 18), some (17, true)⟩,
    ⟨some 20, .faddr 2 (.t 3), some (17, true)⟩,
    ⟨some 21, .load false 1 (.t 20), some (17, true)⟩,
    ⟨some 22, .bin .eql (.t 19) (.t 21), some (17, true)⟩,
    ⟨some 23, .pick (.t 17) (.t 22) (.c (.bool false)), none⟩,
    ⟨some 24, .mov (.t 23), none⟩,
    ⟨some 25, .faddr 3 (.t 2), some (24, true)⟩,
    ⟨some 26, .load false 1 (.t 25), some (24, true)⟩,
    ⟨some 27, .faddr 3 (.t 3), some (24, true)⟩,
    ⟨some 28, .load false 1 (.t 27), some (24, true)⟩,
    ⟨some 29, .call (.c (.fn F.slices_EqualFunc_impl_Res [] [])) [.t 26, .t 28, .c (.fn F.impl_Same [] [])], some (24, true)⟩,
    ⟨some 30, .pick (.t 24) (.t 29) (.c (.bool false)), none⟩,
    ⟨some 4, .mov (.t 30), none⟩]).seq HCode.ret) }
def laws_szResS : HFunc :=
  { np := 2, ntmps := 27, results := [(4, none)], body := (HCode.reg [⟨some 4, .mov (.c (.int .i64 (0))), none⟩]).seq ((HCode.reg [⟨some 6, .mov (.t 1), none⟩,
    ⟨some 7, .mov (.t 0), none⟩,
    ⟨some 8, .len (.t 7), none⟩,
    ⟨some 9, .bin .sub (.t 6) (.t 8), none⟩,
    ⟨some 1, .mov (.t 9), none⟩]).seq (((HCode.reg [⟨some 10, .mov (.t 1), none⟩,
    ⟨some 11, .bin .lss (.t 10) (.c (.int .i64 (0))), none⟩]).seq (HCode.cond (.t 11) ((HCode.reg [⟨some 4, .mov (.c (.int .i64 (-1))), none⟩]).seq HCode.ret) HCode.skip)).seq (((HCode.reg [⟨some 5, .mov (.c (.int .i64 (0))), none⟩]).seq (HCode.block 0 (((HCode.reg [⟨some 12, .mov (.t 5), none⟩,
    ⟨some 13, .mov (.t 0), none⟩,
    ⟨some 14, .len (.t 13), none⟩,
    ⟨some 15, .bin .lss (.t 12) (.t 14), none⟩]).seq (HCode.cond (.t 15) HCode.skip (HCode.exit 0))).seq ((HCode.block 1 ((HCode.reg [⟨some 18, .mov (.t 0), none⟩,
    ⟨some 19, .mov (.t 5), none⟩,
    ⟨some 20, .iaddr 4 (.t 18) (.t 19), none⟩,
    ⟨some 21, .load true 4 (.t 20), none⟩,
    ⟨some 22, .mov (.t 1), none⟩,
    ⟨some 23, .call (.c (.fn F.laws_szRes [] [])) [.t 21, .t 22], none⟩,
    ⟨some 1, .mov (.t 23), none⟩]).seq ((HCode.reg [⟨some 24, .mov (.t 1), none⟩,
    ⟨some 25, .bin .lss (.t 24) (.c (.int .i64 (0))), none⟩]).seq (HCode.cond (.t 25) ((HCode.reg [⟨some 4, .mov (.c (.int .i64 (-1))), none⟩]).seq HCode.ret) HCode.skip)))).seq (HCode.reg [⟨some 16, .mov (.t 5), none⟩,
    ⟨some 17, .bin .add (.t 16) (.c (.int .i64 (1))), none⟩,
    ⟨some 5, .mov (.t 17), none⟩]))).loop)).seq ((HCode.reg [⟨some 26, .mov (.t 1), none⟩,
    ⟨some 4, .mov (.t 26), none⟩]).seq HCode.ret)))) }
def laws_toResS : HFunc :=
  { np := 1, ntmps := 23, results := [(2, none)], body := (HCode.reg [⟨some 2, .mov (.c .nils), none⟩]).seq ((HCode.reg [⟨some 5, .mov (.t 0), none⟩,
    ⟨some 6, .len (.t 5), none⟩,
    ⟨some 7, .mkslice 4 56 (.agg [.int .i64 (0), .str
    ⟨⟨[]⟩⟩, .int .i64 (0), .nils]) (.t 6) (.t 6), none⟩,
    ⟨some 3, .mov (.t 7), none⟩]).seq (((HCode.reg [⟨some 4, .mov (.c (.int .i64 (0))), none⟩]).seq (HCode.block 0 (((HCode.reg [⟨some 8, .mov (.t 4), none⟩,
    ⟨some 9, .mov (.t 0), none⟩,
    ⟨some 10, .len (.t 9), none⟩,
    ⟨some 11, .bin .lss (.t 8) (.t 10), none⟩]).seq (HCode.cond (.t 11) HCode.skip (HCode.exit 0))).seq ((HCode.block 1 (HCode.reg [⟨some 14, .mov (.t 3), none⟩,
    ⟨some 15, .mov (.t 4), none⟩,
    ⟨some 16, .mov (.t 0), none⟩,
    ⟨some 17, .mov (.t 4), none⟩,
    ⟨some 18, .iaddr 4 (.t 16) (.t 17), none⟩,
    ⟨some 19, .load true 4 (.t 18), none⟩,
    ⟨some 20, .call (.c (.fn F.laws_toRes [] [])) [.t 19], none⟩,
    ⟨some 21, .iaddr 4 (.t 14) (.t 15), none⟩,
    ⟨none, .store 4 (.t 21) (.t 20), none⟩])).seq (HCode.reg [⟨some 12, .mov (.t 4), none⟩,
    ⟨some 13, .bin .add (.t 12) (.c (.int .i64 (1))), none⟩,
    ⟨some 4, .mov (.t 13), none⟩]))).loop)).seq ((HCode.reg [⟨some 22, .mov (.t 3), none⟩,
    ⟨some 2, .mov (.t 22), none⟩]).seq HCode.ret))) }
def laws_eqResS : HFunc :=
  { np := 2, ntmps := 27, results := [(4, none)], body := (HCode.reg [⟨some 4, .mov (.c (.bool false)), none⟩]).seq (((HCode.reg [⟨some 6, .mov (.t 0), none⟩,
    ⟨some 7, .len (.t 6), none⟩,
    ⟨some 8, .mov (.t 1), none⟩,
    ⟨some 9, .len (.t 8), none⟩,
    ⟨some 10, .bin .neq (.t 7) (.t 9), none⟩]).seq (HCode.cond (.t 10) ((HCode.reg [⟨some 4, .mov (.c (.bool false)), none⟩]).seq HCode.ret) HCode.skip)).seq (((HCode.reg [⟨some 5, .mov (.c (.int .i64 (0))), none⟩]).seq (HCode.block 0 (((HCode.reg [⟨some 11, .mov (.t 5), none⟩,
    ⟨some 12, .mov (.t 0), none⟩,
    ⟨some 13, .len (.t 12), none⟩,
    ⟨some 14, .bin .lss (.t 11) (.t 13), none⟩]).seq (HCode.cond (.t 14) HCode.skip (HCode.exit 0))).seq ((HCode.block 1 ((HCode.dreg (DPlan.q
    ⟨some 17, .mov (.t 0), none⟩ (DPlan.q
    ⟨some 18, .mov (.t 5), none⟩ (DPlan.q
    ⟨some 19, .iaddr 4 (.t 17) (.t 18), none⟩ (DPlan.q
    ⟨some 20, .load true 4 (.t 19), none⟩ (DPlan.q
    ⟨some 21, .mov (.t 1), none⟩ (DPlan.q
    ⟨some 22, .mov (.t 5), none⟩ (DPlan.q
    ⟨some 23, .iaddr 4 (.t 21) (.t 22), none⟩ (DPlan.q
    ⟨some 24, .load true 4 (.t 23), none⟩ (DPlan.l
    ⟨some 25, .call (.c (.fn F.laws_eqRes [] [])) [.t 20, .t 24], none⟩ [] (DPlan.q
    ⟨some 26, .not (.t 25), none⟩ DPlan.done) DPlan.none)))))))))).seq (HCode.cond (.t 26) ((HCode.reg [⟨some 4, .mov (.c (.bool false)), none⟩]).seq HCode.ret) HCode.skip))).seq (HCode.reg [⟨some 15, .mov (.t 5), none⟩,
    ⟨some 16, .bin .add (.t 15) (.c (.int .i64 (1))), none⟩,
    ⟨some 5, .mov (.t 16), none⟩]))).loop)).seq ((HCode.reg [⟨some 4, .mov (.c (.bool true)), none⟩]).seq HCode.ret))) }
def slices_EqualFunc_impl_Res : HFunc :=
  { np := 3, ntmps := 32, results := [(6, none)], body := (HCode.reg [⟨some 6, .mov (.c (.bool false)), none⟩]).seq (((HCode.reg [⟨some 10, .mov (.t 0), none⟩,
    ⟨some 11, .len (.t 10), none⟩,
    ⟨some 12, .mov (.t 1), none⟩,
    ⟨some 13, .len (.t 12), none⟩,
    ⟨some 14, .bin .neq (.t 11) (.t 13), none⟩]).seq (HCode.cond (.t 14) ((HCode.reg [⟨some 6, .mov (.c (.bool false)), none⟩]).seq HCode.ret) HCode.skip)).seq (((HCode.reg [⟨some 15, .mov (.t 0), none⟩,
    ⟨some 16, .len (.t 15), none⟩,
    ⟨some 17, .mov (.c (.int .i64 (0))), none⟩]).seq (HCode.block 0 ((HCode.reg [⟨some 18, .bin .lss (.t 17) (.t 16), none⟩]).seq ((HCode.cond (.t 18) HCode.skip (HCode.exit 0)).seq ((HCode.block 1 ((HCode.reg [⟨some 19, .mov (.t 17), none⟩,
    ⟨some 20, .iaddr 4 (.t 15) (.t 17), none⟩,
    ⟨some 21, .load true 4 (.t 20), none⟩,
    ⟨some 8, .alloc (.agg [.int .i64 (0), .str
    ⟨⟨[]⟩⟩, .int .i64 (0), .nils]), none⟩,
    ⟨some 7, .mov (.t 19), none⟩,
    ⟨none, .store 4 (.t 8) (.t 21), none⟩]).seq ((HCode.reg [⟨some 22, .mov (.t 1), none⟩,
    ⟨some 23, .mov (.t 7), none⟩,
    ⟨some 24, .iaddr 4 (.t 22) (.t 23), none⟩,
    ⟨some 25, .load true 4 (.t 24), none⟩,
    ⟨some 9, .alloc (.agg [.int .i64 (0), .str
    ⟨⟨[]⟩⟩, .int .i64 (0), .nils]), none⟩,
    ⟨none, .store 4 (.t 9) (.t 25), none⟩]).seq ((HCode.reg [⟨some 26, .mov (.t 2), none⟩,
    ⟨some 27, .load true 4 (.t 8), none⟩,
    ⟨some 28, .load true 4 (.t 9), none⟩,
    ⟨some 29, .call (.t 26) [.t 27, .t 28], none⟩,
    ⟨some 30, .not (.t 29), none⟩]).seq (HCode.cond (.t 30) ((HCode.reg [⟨some 6, .mov (.c (.bool false)), none⟩]).seq HCode.ret) HCode.skip))))).seq (HCode.reg [⟨some 31, .bin .add (.t 17) (.c (.int .i64 (1))), none⟩,
    ⟨some 17, .mov (.t 31), none⟩])))).loop)).seq ((HCode.reg [⟨some 6, .mov (.c (.bool true)), none⟩]).seq HCode.ret))) }
end H
namespace S
noncomputable abbrev P : Program := Go.Proofs.Try.prog
theorem laws_FnExactEnded : stripF P F.laws_FnExactEnded = some H.laws_FnExactEnded := by kernel_rfl
theorem laws_FnExactDepth : stripF P F.laws_FnExactDepth = some H.laws_FnExactDepth := by kernel_rfl
theorem laws_FnExactSame : stripF P F.laws_FnExactSame = some H.laws_FnExactSame := by kernel_rfl
theorem laws_szRes : stripF P F.laws_szRes = some H.laws_szRes := by kernel_rfl
theorem spec_Ended : stripF P F.spec_Ended = some H.spec_Ended := by kernel_rfl
theorem laws_toRes : stripF P F.laws_toRes = some H.laws_toRes := by kernel_rfl
theorem impl_Ended : stripF P F.impl_Ended = some H.impl_Ended := by kernel_rfl
theorem laws_eqRes : stripF P F.laws_eqRes = some H.laws_eqRes := by kernel_rfl
theorem spec_Depth : stripF P F.spec_Depth = some H.spec_Depth := by kernel_rfl
theorem impl_Depth : stripF P F.impl_Depth = some H.impl_Depth := by kernel_rfl
theorem spec_Same : stripF P F.spec_Same = some H.spec_Same := by kernel_rfl
theorem impl_Same : stripF P F.impl_Same = some H.impl_Same := by kernel_rfl
theorem laws_szResS : stripF P F.laws_szResS = some H.laws_szResS := by kernel_rfl
theorem laws_toResS : stripF P F.laws_toResS = some H.laws_toResS := by kernel_rfl
theorem laws_eqResS : stripF P F.laws_eqResS = some H.laws_eqResS := by kernel_rfl
theorem slices_EqualFunc_impl_Res : stripF P F.slices_EqualFunc_impl_Res = some H.slices_EqualFunc_impl_Res := by kernel_rfl
end S
end T
