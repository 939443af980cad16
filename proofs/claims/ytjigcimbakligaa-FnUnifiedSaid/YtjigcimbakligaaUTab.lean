import Derived.Test.YtjigcimbakligaaUTy
import Derived.KernelRfl
import Derived.Test.YtjigcimbakligaaProg
set_option linter.unusedSimpArgs false
set_option linter.unusedVariables false
set_option linter.unusedSectionVars false
namespace W
open Go HL HL.X
set_option linter.unusedVariables false
set_option maxRecDepth 1000000
set_option maxHeartbeats 4000000
noncomputable abbrev P : Program := Go.Proofs.Try.prog
def s_laws_big : FS S := ⟨4, true, [.d (.ls (.int .u8))], [], [.d .bool], [], [], [], none⟩
def L_spec_l1New_L0 : LS := ⟨58, [(0, .d (.ls (.int .u8))), (3, .d (.int .i64)), (4, .d (.int .i64))], [], [⟨.exit 0, [(3, .d (.int .i64))], []⟩]⟩
def s_spec_l1New : FS S := ⟨10, true, [.d (.ls (.int .u8))], [], [.ptr 0 0], [.box (.d (.st 0))], [L_spec_l1New_L0], [], none⟩
def s_spec_l1Byte : FS S := ⟨30, true, [.ptr 0 0], [.box (.d (.st 0))], [.d (.int .i64)], [.box (.d (.st 0))], [], [], none⟩
def s_spec_l1Below : FS S := ⟨16, true, [.ptr 0 0, .d (.int .i64)], [.box (.d (.st 0))], [.d (.int .i64)], [.box (.d (.st 0))], [], [], none⟩
def s_spec_l9Int : FS S := ⟨17, true, [], [], [.d (.st 1)], [], [], [], none⟩
def s_spec_l9Bool : FS S := ⟨18, true, [], [], [.d (.st 1)], [], [], [], none⟩
def s_spec_l1Str : FS S := ⟨20, true, [.ptr 0 0, .d (.ls .str)], [.box (.d (.st 0))], [.d .str], [.box (.d (.st 0))], [], [], none⟩
def s_spec_l9Data : FS S := ⟨19, true, [.d .str], [], [.d (.st 1)], [], [], [], none⟩
def s_spec_l9Var : FS S := ⟨21, true, [.d (.int .i64)], [], [.d (.st 1)], [], [], [], none⟩
def s_spec_l9Fun : FS S := ⟨22, true, [.d (.st 1), .d (.st 1)], [], [.d (.st 1)], [], [], [], none⟩
def s_spec_l9Draw : FS S := ⟨11, true, [.ptr 0 0, .d (.int .i64)], [.box (.d (.st 0))], [.d (.st 1)], [.box (.d (.st 0))], [], [(1727, [⟨.normal, [(0, .ptr 0 0), (4, .ptr 1 0), (20, .d .bool)], [.box (.d (.st 0)), .box (.d (.st 1))]⟩])], none⟩
def s_spec_DrawTys : FS S := ⟨5, true, [.d (.ls (.int .u8))], [], [.d (.st 1), .d (.st 1)], [], [], [], none⟩
def L_impl_cloneTy_L0 : LS := ⟨58, [(2, .ptr 0 0), (3, .ptr 1 0), (14, .d (.ls (.st 1))), (15, .d (.int .i64)), (16, .d (.int .i64))], [.box (.d (.st 1)), .box (.agg [.d (.int .i64), .d .str, .d (.int .i64), .own 2 (.st 1)]), .arr (.st 1)], [⟨.exit 0, [(2, .ptr 0 0), (3, .ptr 1 0)], [.box (.d (.st 1)), .box (.agg [.d (.int .i64), .d .str, .d (.int .i64), .own 2 (.st 1)]), .arr (.st 1)]⟩]⟩
def s_impl_cloneTy : FS S := ⟨23, true, [.d (.st 1)], [], [.d (.st 1)], [], [L_impl_cloneTy_L0], [], none⟩
def L_impl_cloneTable_L0 : LS := ⟨58, [(3, .own 0 (.st 1)), (6, .d (.ls (.st 1))), (7, .d (.int .i64)), (8, .d (.int .i64))], [.arr (.st 1)], [⟨.exit 0, [(3, .own 0 (.st 1))], [.arr (.st 1)]⟩]⟩
def s_impl_cloneTable : FS S := ⟨12, true, [.d (.ls (.st 1))], [], [.own 0 (.st 1)], [.arr (.st 1)], [L_impl_cloneTable_L0], [], none⟩
def s_impl_unifier_spend : FS S := ⟨24, true, [.ptr 0 0], [.box (.agg [.own 1 (.st 1), .d (.int .i64), .d .bool]), .ro (.st 1)], [.d .bool], [.box (.agg [.own 1 (.st 1), .d (.int .i64), .d .bool]), .same], [], [(7, [⟨.normal, [(0, .ptr 0 0)], [.box (.agg [.own 1 (.st 1), .d (.int .i64), .d .bool]), .same]⟩])], none⟩
def s_impl_in : FS S := ⟨26, true, [.d (.int .i64), .d (.int .i64), .d (.int .i64)], [], [.d .bool], [], [], [], none⟩
def L_impl_looked_L0 : LS := ⟨26, [(0, .own 0 (.st 1)), (3, .ptr 1 0), (4, .ptr 2 0), (5, .d (.int .i64))], [.ro (.st 1), .box (.d (.st 1)), .box (.d (.st 1))], [⟨.exit 0, [(3, .ptr 1 0), (4, .ptr 2 0)], [.same, .box (.d (.st 1)), .box (.d (.st 1))]⟩]⟩
def s_impl_looked : FS S := ⟨25, true, [.own 0 (.st 1), .d (.st 1)], [.ro (.st 1)], [.d (.st 1)], [.same], [L_impl_looked_L0], [], none⟩
def s_impl_unifier_has_1 : FS S := ⟨35, true, [.d (.st 1), .ptr 0 0, .ptr 1 0], [.box (.ptr 2 0), .box (.d (.int .i64)), .box (.agg [.own 3 (.st 1), .d (.int .i64), .d .bool]), .ro (.st 1)], [.d .bool], [.box (.ptr 2 0), .box (.d (.int .i64)), .box (.agg [.own 3 (.st 1), .d (.int .i64), .d .bool]), .same], [], [], none⟩
def L_slices_IndexFunc_impl_Ty_at_unifier_has_1_L0 : LS := ⟨26, [(0, .d (.ls (.st 1))), (1, .fn 35 [] [.ptr 0 0, .ptr 1 0]), (7, .d (.int .i64)), (8, .d (.int .i64))], [.box (.ptr 2 0), .box (.d (.int .i64)), .box (.agg [.own 3 (.st 1), .d (.int .i64), .d .bool]), .ro (.st 1)], [⟨.ret, [(4, .d (.int .i64))], [.box (.ptr 2 0), .box (.d (.int .i64)), .box (.agg [.own 3 (.st 1), .d (.int .i64), .d .bool]), .same]⟩, ⟨.exit 0, [], [.box (.ptr 2 0), .box (.d (.int .i64)), .box (.agg [.own 3 (.st 1), .d (.int .i64), .d .bool]), .same]⟩]⟩
def s_slices_IndexFunc_impl_Ty_at_unifier_has_1 : FS S := ⟨36, true, [.d (.ls (.st 1)), .fn 35 [] [.ptr 0 0, .ptr 1 0]], [.box (.ptr 2 0), .box (.d (.int .i64)), .box (.agg [.own 3 (.st 1), .d (.int .i64), .d .bool]), .ro (.st 1)], [.d (.int .i64)], [.box (.ptr 2 0), .box (.d (.int .i64)), .box (.agg [.own 3 (.st 1), .d (.int .i64), .d .bool]), .same], [L_slices_IndexFunc_impl_Ty_at_unifier_has_1_L0], [], none⟩
def s_slices_ContainsFunc_impl_Ty_at_unifier_has_1 : FS S := ⟨34, true, [.d (.ls (.st 1)), .fn 35 [] [.ptr 0 0, .ptr 1 0]], [.box (.ptr 2 0), .box (.d (.int .i64)), .box (.agg [.own 3 (.st 1), .d (.int .i64), .d .bool]), .ro (.st 1)], [.d .bool], [.box (.ptr 2 0), .box (.d (.int .i64)), .box (.agg [.own 3 (.st 1), .d (.int .i64), .d .bool]), .same], [], [], none⟩
def s_impl_unifier_has : FS S := ⟨31, true, [.ptr 0 0, .d (.int .i64), .d (.st 1)], [.box (.agg [.own 1 (.st 1), .d (.int .i64), .d .bool]), .ro (.st 1)], [.d .bool], [.box (.agg [.own 1 (.st 1), .d (.int .i64), .d .bool]), .same], [], [], none⟩
def L_impl_unifier_know_L0 : LS := ⟨28, [(0, .ptr 0 0), (1, .d (.int .i64)), (5, .ptr 2 0)], [.box (.agg [.own 1 (.st 1), .d (.int .i64), .d .bool]), .arr (.st 1), .box (.d (.st 1))], [⟨.exit 0, [(0, .ptr 0 0), (5, .ptr 2 0)], [.box (.agg [.own 1 (.st 1), .d (.int .i64), .d .bool]), .arr (.st 1), .box (.d (.st 1))]⟩]⟩
def s_impl_unifier_know : FS S := ⟨27, true, [.ptr 0 0, .d (.int .i64), .d (.st 1)], [.box (.agg [.own 1 (.st 1), .d (.int .i64), .d .bool]), .arr (.st 1)], [], [.box (.agg [.own 1 (.st 1), .d (.int .i64), .d .bool]), .arr (.st 1)], [L_impl_unifier_know_L0], [(6, [⟨.normal, [(0, .ptr 0 0), (5, .ptr 2 0), (14, .d .bool)], [.box (.agg [.own 1 (.st 1), .d (.int .i64), .d .bool]), .same, .box (.d (.st 1))]⟩])], none⟩
def L_slices_EqualFunc_impl_Ty_at_SameTy_L0 : LS := ⟨58, [(1, .d (.ls (.st 1))), (2, .fn 28 [] []), (15, .d (.ls (.st 1))), (16, .d (.int .i64)), (17, .d (.int .i64))], [], [⟨.ret, [(6, .d .bool)], []⟩, ⟨.exit 0, [], []⟩]⟩
def s_slices_EqualFunc_impl_Ty_at_SameTy : FS S := ⟨32, true, [.d (.ls (.st 1)), .d (.ls (.st 1)), .fn 28 [] []], [], [.d .bool], [], [L_slices_EqualFunc_impl_Ty_at_SameTy_L0], [], none⟩
def s_impl_SameTy : FS S := ⟨28, true, [.d (.st 1), .d (.st 1)], [], [.d .bool], [], [], [], none⟩
def s_impl_unifier_both : FS S := ⟨13, true, [.ptr 0 0, .d (.st 1), .d (.st 1)], [.box (.agg [.own 1 (.st 1), .d (.int .i64), .d .bool]), .arr (.st 1)], [], [.box (.agg [.own 1 (.st 1), .d (.int .i64), .d .bool]), .arr (.st 1)], [], [(30, [⟨.normal, [(0, .ptr 0 0), (4, .ptr 2 0), (5, .ptr 3 0), (40, .d .bool)], [.box (.agg [.own 1 (.st 1), .d (.int .i64), .d .bool]), .same, .box (.d (.st 1)), .box (.d (.st 1))]⟩]), (1983, [⟨.normal, [(0, .ptr 0 0), (4, .ptr 2 0), (5, .ptr 3 0), (87, .d .bool)], [.box (.agg [.own 1 (.st 1), .d (.int .i64), .d .bool]), .same, .box (.d (.st 1)), .box (.d (.st 1))]⟩])], none⟩
def s_impl_Unify : FS S := ⟨6, false, [.d (.ls (.st 1)), .d (.st 1), .d (.st 1)], [], [.own 0 (.st 1), .d .bool], [.arr (.st 1)], [], [], none⟩
def L_laws_sameTy_L0 : LS := ⟨58, [(2, .ptr 0 0), (3, .ptr 1 0), (5, .d (.int .i64))], [.box (.d (.st 1)), .box (.d (.st 1))], [⟨.ret, [(4, .d .bool)], []⟩, ⟨.exit 0, [], []⟩]⟩
def s_laws_sameTy : FS S := ⟨7, true, [.d (.st 1), .d (.st 1)], [], [.d .bool], [], [L_laws_sameTy_L0], [], none⟩
def L_impl_knower_ty_L0 : LS := ⟨506, [(0, .ptr 0 0), (4, .ptr 2 0), (5, .ptr 3 0), (36, .d (.ls (.st 1))), (37, .d (.int .i64)), (38, .d (.int .i64))], [.box (.agg [.own 1 (.st 1), .d (.int .i64)]), .ro (.st 1), .box (.d (.st 1)), .box (.agg [.d (.int .i64), .d .str, .d (.int .i64), .own 4 (.st 1)]), .arr (.st 1)], [⟨.exit 0, [(4, .ptr 2 0), (5, .ptr 3 0)], [.box (.agg [.own 1 (.st 1), .d (.int .i64)]), .same, .box (.d (.st 1)), .box (.agg [.d (.int .i64), .d .str, .d (.int .i64), .own 4 (.st 1)]), .arr (.st 1)]⟩]⟩
def s_impl_knower_ty : FS S := ⟨14, true, [.ptr 0 0, .d (.st 1)], [.box (.agg [.own 1 (.st 1), .d (.int .i64)]), .ro (.st 1)], [.d (.st 1)], [.box (.agg [.own 1 (.st 1), .d (.int .i64)]), .same], [L_impl_knower_ty_L0], [], none⟩
def s_impl_Known : FS S := ⟨8, false, [.own 0 (.st 1), .d (.st 1)], [.ro (.st 1)], [.d (.st 1)], [.same], [], [], none⟩
def L_slices_Index_int_L0 : LS := ⟨26, [(0, .own 0 (.int .i64)), (1, .d (.int .i64)), (7, .d (.int .i64)), (8, .d (.int .i64))], [.ro (.int .i64)], [⟨.ret, [(4, .d (.int .i64))], [.same]⟩, ⟨.exit 0, [], [.same]⟩]⟩
def s_slices_Index_int : FS S := ⟨33, true, [.own 0 (.int .i64), .d (.int .i64)], [.ro (.int .i64)], [.d (.int .i64)], [.same], [L_slices_Index_int_L0], [], none⟩
def s_slices_Contains_int : FS S := ⟨29, true, [.own 0 (.int .i64), .d (.int .i64)], [.ro (.int .i64)], [.d .bool], [.same], [], [], none⟩
def L_impl_varsIn_L0 : LS := ⟨58, [(1, .own 0 (.int .i64)), (23, .d (.ls (.st 1))), (24, .d (.int .i64)), (25, .d (.int .i64))], [.arr (.int .i64)], [⟨.exit 0, [(1, .own 0 (.int .i64))], [.arr (.int .i64)]⟩]⟩
def s_impl_varsIn : FS S := ⟨15, true, [.d (.st 1), .own 0 (.int .i64)], [.arr (.int .i64)], [.own 0 (.int .i64)], [.arr (.int .i64)], [L_impl_varsIn_L0], [(6, [⟨.normal, [(1, .own 0 (.int .i64)), (2, .ptr 1 0), (16, .d .bool)], [.same, .box (.d (.st 1))]⟩]), (3, [⟨.normal, [(1, .own 0 (.int .i64)), (2, .ptr 1 0)], [.arr (.int .i64), .box (.d (.st 1))]⟩])], none⟩
def s_impl_VarsOf : FS S := ⟨9, true, [.d (.st 1)], [], [.own 0 (.int .i64)], [.arr (.int .i64)], [], [], none⟩
def s_laws_FnUnified : FS S := ⟨3, true, [.d (.ls (.int .u8))], [], [.d .bool], [], [], [], none⟩
noncomputable def tab : List (FS S) := [s_laws_big, s_spec_l1New, s_spec_l1Byte, s_spec_l1Below, s_spec_l9Int, s_spec_l9Bool, s_spec_l1Str, s_spec_l9Data, s_spec_l9Var, s_spec_l9Fun, s_spec_l9Draw, s_spec_DrawTys, s_impl_cloneTy, s_impl_cloneTable, s_impl_unifier_spend, s_impl_in, s_impl_looked, s_impl_unifier_has_1, s_slices_IndexFunc_impl_Ty_at_unifier_has_1, s_slices_ContainsFunc_impl_Ty_at_unifier_has_1, s_impl_unifier_has, s_impl_unifier_know, s_slices_EqualFunc_impl_Ty_at_SameTy, s_impl_SameTy, s_impl_unifier_both, s_impl_Unify, s_laws_sameTy, s_impl_knower_ty, s_impl_Known, s_slices_Index_int, s_slices_Contains_int, s_impl_varsIn, s_impl_VarsOf, s_laws_FnUnified]
namespace M
noncomputable def laws_big (x : List Int) : Option (Bool) := RT P tab (.fn s_laws_big) x
noncomputable def spec_l1New_L0 (x : (List Int) × Int × Int) : Option (Int) := RT P tab (.lp s_spec_l1New L_spec_l1New_L0) x
noncomputable def spec_l1New (x : List Int) : Option (spec_l1Cur) := RT P tab (.fn s_spec_l1New) x
noncomputable def spec_l1Byte (x : spec_l1Cur) : Option (Int × spec_l1Cur) := RT P tab (.fn s_spec_l1Byte) x
noncomputable def spec_l1Below (x : Int × spec_l1Cur) : Option (Int × spec_l1Cur) := RT P tab (.fn s_spec_l1Below) x
noncomputable def spec_l9Int (x : Unit) : Option (Ty) := RT P tab (.fn s_spec_l9Int) x
noncomputable def spec_l9Bool (x : Unit) : Option (Ty) := RT P tab (.fn s_spec_l9Bool) x
noncomputable def spec_l1Str (x : (List ByteArray) × spec_l1Cur) : Option (ByteArray × spec_l1Cur) := RT P tab (.fn s_spec_l1Str) x
noncomputable def spec_l9Data (x : ByteArray) : Option (Ty) := RT P tab (.fn s_spec_l9Data) x
noncomputable def spec_l9Var (x : Int) : Option (Ty) := RT P tab (.fn s_spec_l9Var) x
noncomputable def spec_l9Fun (x : Ty × Ty) : Option (Ty) := RT P tab (.fn s_spec_l9Fun) x
noncomputable def spec_l9Draw (x : Int × spec_l1Cur) : Option (Ty × spec_l1Cur) := RT P tab (.fn s_spec_l9Draw) x
noncomputable def spec_DrawTys (x : List Int) : Option (Ty × Ty) := RT P tab (.fn s_spec_DrawTys) x
noncomputable def impl_cloneTy_L0 (x : (List Ty) × Int × Int × Ty × Int × ByteArray × Int × (List Ty)) : Option (Ty × Int × ByteArray × Int × (List Ty)) := RT P tab (.lp s_impl_cloneTy L_impl_cloneTy_L0) x
noncomputable def impl_cloneTy (x : Ty) : Option (Ty) := RT P tab (.fn s_impl_cloneTy) x
noncomputable def impl_cloneTable_L0 (x : (List Ty) × Int × Int × (List Ty)) : Option (List Ty) := RT P tab (.lp s_impl_cloneTable L_impl_cloneTable_L0) x
noncomputable def impl_cloneTable (x : List Ty) : Option (List Ty) := RT P tab (.fn s_impl_cloneTable) x
noncomputable def impl_unifier_spend (x : Int × Bool × (List Ty)) : Option (Bool × Int × Bool) := RT P tab (.fn s_impl_unifier_spend) x
noncomputable def impl_in (x : Int × Int × Int) : Option (Bool) := RT P tab (.fn s_impl_in) x
noncomputable def impl_looked_L0 (x : Int × (List Ty) × Ty × Ty) : Option (Ty × Ty) := RT P tab (.lp s_impl_looked L_impl_looked_L0) x
noncomputable def impl_looked (x : Ty × (List Ty)) : Option (Ty) := RT P tab (.fn s_impl_looked) x
noncomputable def impl_unifier_has_1 (x : Ty × Int × Int × Bool × (List Ty)) : Option (Bool × Int × Int × Bool) := RT P tab (.fn s_impl_unifier_has_1) x
noncomputable def slices_IndexFunc_impl_Ty_at_unifier_has_1_L0 (x : (List Ty) × Int × Int × Int × Int × Bool × (List Ty)) : Option ((Int × Int × Int × Bool) ⊕ (Int × Int × Bool)) := RT P tab (.lp s_slices_IndexFunc_impl_Ty_at_unifier_has_1 L_slices_IndexFunc_impl_Ty_at_unifier_has_1_L0) x
noncomputable def slices_IndexFunc_impl_Ty_at_unifier_has_1 (x : (List Ty) × Int × Int × Bool × (List Ty)) : Option (Int × Int × Int × Bool) := RT P tab (.fn s_slices_IndexFunc_impl_Ty_at_unifier_has_1) x
noncomputable def slices_ContainsFunc_impl_Ty_at_unifier_has_1 (x : (List Ty) × Int × Int × Bool × (List Ty)) : Option (Bool × Int × Int × Bool) := RT P tab (.fn s_slices_ContainsFunc_impl_Ty_at_unifier_has_1) x
noncomputable def impl_unifier_has (x : Int × Ty × Int × Bool × (List Ty)) : Option (Bool × Int × Bool) := RT P tab (.fn s_impl_unifier_has) x
noncomputable def impl_unifier_know_L0 (x : Int × Int × Bool × (List Ty) × Ty) : Option (Int × Bool × (List Ty) × Ty) := RT P tab (.lp s_impl_unifier_know L_impl_unifier_know_L0) x
noncomputable def impl_unifier_know (x : Int × Ty × Int × Bool × (List Ty)) : Option (Int × Bool × (List Ty)) := RT P tab (.fn s_impl_unifier_know) x
noncomputable def slices_EqualFunc_impl_Ty_at_SameTy_L0 (x : (List Ty) × (List Ty) × Int × Int) : Option (Bool ⊕ Unit) := RT P tab (.lp s_slices_EqualFunc_impl_Ty_at_SameTy L_slices_EqualFunc_impl_Ty_at_SameTy_L0) x
noncomputable def slices_EqualFunc_impl_Ty_at_SameTy (x : (List Ty) × (List Ty)) : Option (Bool) := RT P tab (.fn s_slices_EqualFunc_impl_Ty_at_SameTy) x
noncomputable def impl_SameTy (x : Ty × Ty) : Option (Bool) := RT P tab (.fn s_impl_SameTy) x
noncomputable def impl_unifier_both (x : Ty × Ty × Int × Bool × (List Ty)) : Option (Int × Bool × (List Ty)) := RT P tab (.fn s_impl_unifier_both) x
noncomputable def impl_Unify (x : (List Ty) × Ty × Ty) : Option (Bool × (List Ty)) := RT P tab (.fn s_impl_Unify) x
noncomputable def laws_sameTy_L0 (x : Int × Ty × Ty) : Option (Bool ⊕ Unit) := RT P tab (.lp s_laws_sameTy L_laws_sameTy_L0) x
noncomputable def laws_sameTy (x : Ty × Ty) : Option (Bool) := RT P tab (.fn s_laws_sameTy) x
noncomputable def impl_knower_ty_L0 (x : (List Ty) × Int × Int × Int × (List Ty) × Ty × Int × ByteArray × Int × (List Ty)) : Option (Int × Ty × Int × ByteArray × Int × (List Ty)) := RT P tab (.lp s_impl_knower_ty L_impl_knower_ty_L0) x
noncomputable def impl_knower_ty (x : Ty × Int × (List Ty)) : Option (Ty × Int) := RT P tab (.fn s_impl_knower_ty) x
noncomputable def impl_Known (x : Ty × (List Ty)) : Option (Ty) := RT P tab (.fn s_impl_Known) x
noncomputable def slices_Index_int_L0 (x : Int × Int × Int × (List Int)) : Option (Int ⊕ Unit) := RT P tab (.lp s_slices_Index_int L_slices_Index_int_L0) x
noncomputable def slices_Index_int (x : Int × (List Int)) : Option (Int) := RT P tab (.fn s_slices_Index_int) x
noncomputable def slices_Contains_int (x : Int × (List Int)) : Option (Bool) := RT P tab (.fn s_slices_Contains_int) x
noncomputable def impl_varsIn_L0 (x : (List Ty) × Int × Int × (List Int)) : Option (List Int) := RT P tab (.lp s_impl_varsIn L_impl_varsIn_L0) x
noncomputable def impl_varsIn (x : Ty × (List Int)) : Option (List Int) := RT P tab (.fn s_impl_varsIn) x
noncomputable def impl_VarsOf (x : Ty) : Option (List Int) := RT P tab (.fn s_impl_VarsOf) x
noncomputable def laws_FnUnified (x : List Int) : Option (Bool) := RT P tab (.fn s_laws_FnUnified) x
end M
end W
