import Derived.Test.YtmpenomcfdihgaaVTy
import Derived.KernelRfl
import Derived.Test.YtmpenomcfdihgaaProg
set_option linter.unusedSimpArgs false
set_option linter.unusedVariables false
set_option linter.unusedSectionVars false
namespace W
open Go HL HL.X
set_option linter.unusedVariables false
set_option maxRecDepth 1000000
set_option maxHeartbeats 4000000
noncomputable abbrev P : Program := Go.Proofs.Try.prog
def L_laws_szTyS_L0 : LS := ⟨122, [(0, .d (.ls (.st 0))), (1, .d (.int .i64)), (5, .d (.int .i64))], [], [⟨.ret, [(4, .d (.int .i64))], []⟩, ⟨.exit 0, [(1, .d (.int .i64))], []⟩]⟩
def s_laws_szTyS : FS S := ⟨13, true, [.d (.ls (.st 0)), .d (.int .i64)], [], [.d (.int .i64)], [], [L_laws_szTyS_L0], [], none⟩
def s_laws_szTy : FS S := ⟨4, true, [.d (.st 0), .d (.int .i64)], [], [.d (.int .i64)], [], [], [], none⟩
def L_laws_toTyS_L0 : LS := ⟨58, [(0, .d (.ls (.st 0))), (3, .own 0 (.st 0)), (4, .d (.int .i64))], [.arr (.st 0)], [⟨.exit 0, [(3, .own 0 (.st 0))], [.arr (.st 0)]⟩]⟩
def s_laws_toTyS : FS S := ⟨15, true, [.d (.ls (.st 0))], [], [.own 0 (.st 0)], [.arr (.st 0)], [L_laws_toTyS_L0], [], none⟩
def s_laws_toTy : FS S := ⟨6, true, [.d (.st 0)], [], [.d (.st 0)], [], [], [], none⟩
def L_spec_l9Has_L0 : LS := ⟨26, [(0, .d (.ls (.int .i64))), (1, .d (.int .i64)), (5, .d (.int .i64))], [], [⟨.ret, [(4, .d .bool)], []⟩, ⟨.exit 0, [], []⟩]⟩
def s_spec_l9Has : FS S := ⟨19, true, [.d (.ls (.int .i64)), .d (.int .i64)], [], [.d .bool], [], [L_spec_l9Has_L0], [], none⟩
def L_spec_l9Vars_L0 : LS := ⟨58, [(0, .d (.ls (.int .i64))), (3, .ptr 0 0), (5, .d (.int .i64))], [.box (.d (.st 0))], [⟨.exit 0, [(0, .d (.ls (.int .i64)))], []⟩]⟩
def s_spec_l9Vars : FS S := ⟨14, true, [.d (.ls (.int .i64)), .d (.st 0)], [], [.d (.ls (.int .i64))], [], [L_spec_l9Vars_L0], [(6, [⟨.normal, [(3, .ptr 0 0), (15, .d .bool)], [.box (.d (.st 0))]⟩]), (3, [⟨.normal, [(0, .d (.ls (.int .i64))), (3, .ptr 0 0)], [.box (.d (.st 0))]⟩])], none⟩
def s_spec_VarsOf : FS S := ⟨5, true, [.d (.st 0)], [], [.d (.ls (.int .i64))], [], [], [], none⟩
def L_slices_Index_int_L0 : LS := ⟨26, [(0, .own 0 (.int .i64)), (1, .d (.int .i64)), (7, .d (.int .i64)), (8, .d (.int .i64))], [.ro (.int .i64)], [⟨.ret, [(4, .d (.int .i64))], [.same]⟩, ⟨.exit 0, [], [.same]⟩]⟩
def s_slices_Index_int : FS S := ⟨22, true, [.own 0 (.int .i64), .d (.int .i64)], [.ro (.int .i64)], [.d (.int .i64)], [.same], [L_slices_Index_int_L0], [], none⟩
def s_slices_Contains_int : FS S := ⟨20, true, [.own 0 (.int .i64), .d (.int .i64)], [.ro (.int .i64)], [.d .bool], [.same], [], [], none⟩
def L_impl_varsIn_L0 : LS := ⟨58, [(1, .own 0 (.int .i64)), (23, .d (.ls (.st 0))), (24, .d (.int .i64)), (25, .d (.int .i64))], [.arr (.int .i64)], [⟨.exit 0, [(1, .own 0 (.int .i64))], [.arr (.int .i64)]⟩]⟩
def s_impl_varsIn : FS S := ⟨16, true, [.d (.st 0), .own 0 (.int .i64)], [.arr (.int .i64)], [.own 0 (.int .i64)], [.arr (.int .i64)], [L_impl_varsIn_L0], [(6, [⟨.normal, [(1, .own 0 (.int .i64)), (2, .ptr 1 0), (16, .d .bool)], [.same, .box (.d (.st 0))]⟩]), (3, [⟨.normal, [(1, .own 0 (.int .i64)), (2, .ptr 1 0)], [.arr (.int .i64), .box (.d (.st 0))]⟩])], none⟩
def s_impl_VarsOf : FS S := ⟨7, true, [.d (.st 0)], [], [.own 0 (.int .i64)], [.arr (.int .i64)], [], [], none⟩
def L_laws_eqIntS_L0 : LS := ⟨58, [(0, .d (.ls (.int .i64))), (1, .d (.ls (.int .i64))), (5, .d (.int .i64))], [], [⟨.ret, [(4, .d .bool)], []⟩, ⟨.exit 0, [], []⟩]⟩
def s_laws_eqIntS : FS S := ⟨8, true, [.d (.ls (.int .i64)), .d (.ls (.int .i64))], [], [.d .bool], [], [L_laws_eqIntS_L0], [], none⟩
def L_laws_eqTyS_L0 : LS := ⟨58, [(0, .d (.ls (.st 0))), (1, .d (.ls (.st 0))), (5, .d (.int .i64))], [], [⟨.ret, [(4, .d .bool)], []⟩, ⟨.exit 0, [], []⟩]⟩
def s_laws_eqTyS : FS S := ⟨17, true, [.d (.ls (.st 0)), .d (.ls (.st 0))], [], [.d .bool], [], [L_laws_eqTyS_L0], [], none⟩
def s_laws_eqTy : FS S := ⟨9, true, [.d (.st 0), .d (.st 0)], [], [.d .bool], [], [], [], none⟩
def L_laws_heldIntS_L0 : LS := ⟨26, [(0, .d (.ls (.int .i64))), (1, .d (.int .i64)), (5, .d (.int .i64))], [], [⟨.ret, [(4, .d (.int .i64))], []⟩, ⟨.exit 0, [(1, .d (.int .i64))], []⟩]⟩
def s_laws_heldIntS : FS S := ⟨12, true, [.d (.ls (.int .i64)), .d (.int .i64)], [], [.d (.int .i64)], [], [L_laws_heldIntS_L0], [], none⟩
def L_laws_markText_L0 : LS := ⟨60, [(0, .d (.int .i64)), (3, .d .str)], [], [⟨.exit 0, [(3, .d .str)], []⟩]⟩
def s_laws_markText : FS S := ⟨21, true, [.d (.int .i64)], [], [.d .str], [], [L_laws_markText_L0], [], none⟩
noncomputable def tab : List (FS S) := [s_laws_szTyS, s_laws_szTy, s_laws_toTyS, s_laws_toTy, s_spec_l9Has, s_spec_l9Vars, s_spec_VarsOf, s_slices_Index_int, s_slices_Contains_int, s_impl_varsIn, s_impl_VarsOf, s_laws_eqIntS, s_laws_eqTyS, s_laws_eqTy, s_laws_heldIntS, s_laws_markText]
namespace M
noncomputable def laws_szTyS_L0 (x : (List Ty) × Int × Int) : Option (Int ⊕ Int) := RT P tab (.lp s_laws_szTyS L_laws_szTyS_L0) x
noncomputable def laws_szTyS (x : (List Ty) × Int) : Option (Int) := RT P tab (.fn s_laws_szTyS) x
noncomputable def laws_szTy (x : Ty × Int) : Option (Int) := RT P tab (.fn s_laws_szTy) x
noncomputable def laws_toTyS_L0 (x : (List Ty) × Int × (List Ty)) : Option (List Ty) := RT P tab (.lp s_laws_toTyS L_laws_toTyS_L0) x
noncomputable def laws_toTyS (x : List Ty) : Option (List Ty) := RT P tab (.fn s_laws_toTyS) x
noncomputable def laws_toTy (x : Ty) : Option (Ty) := RT P tab (.fn s_laws_toTy) x
noncomputable def spec_l9Has_L0 (x : (List Int) × Int × Int) : Option (Bool ⊕ Unit) := RT P tab (.lp s_spec_l9Has L_spec_l9Has_L0) x
noncomputable def spec_l9Has (x : (List Int) × Int) : Option (Bool) := RT P tab (.fn s_spec_l9Has) x
noncomputable def spec_l9Vars_L0 (x : (List Int) × Int × Ty) : Option (List Int) := RT P tab (.lp s_spec_l9Vars L_spec_l9Vars_L0) x
noncomputable def spec_l9Vars (x : (List Int) × Ty) : Option (List Int) := RT P tab (.fn s_spec_l9Vars) x
noncomputable def spec_VarsOf (x : Ty) : Option (List Int) := RT P tab (.fn s_spec_VarsOf) x
noncomputable def slices_Index_int_L0 (x : Int × Int × Int × (List Int)) : Option (Int ⊕ Unit) := RT P tab (.lp s_slices_Index_int L_slices_Index_int_L0) x
noncomputable def slices_Index_int (x : Int × (List Int)) : Option (Int) := RT P tab (.fn s_slices_Index_int) x
noncomputable def slices_Contains_int (x : Int × (List Int)) : Option (Bool) := RT P tab (.fn s_slices_Contains_int) x
noncomputable def impl_varsIn_L0 (x : (List Ty) × Int × Int × (List Int)) : Option (List Int) := RT P tab (.lp s_impl_varsIn L_impl_varsIn_L0) x
noncomputable def impl_varsIn (x : Ty × (List Int)) : Option (List Int) := RT P tab (.fn s_impl_varsIn) x
noncomputable def impl_VarsOf (x : Ty) : Option (List Int) := RT P tab (.fn s_impl_VarsOf) x
noncomputable def laws_eqIntS_L0 (x : (List Int) × (List Int) × Int) : Option (Bool ⊕ Unit) := RT P tab (.lp s_laws_eqIntS L_laws_eqIntS_L0) x
noncomputable def laws_eqIntS (x : (List Int) × (List Int)) : Option (Bool) := RT P tab (.fn s_laws_eqIntS) x
noncomputable def laws_eqTyS_L0 (x : (List Ty) × (List Ty) × Int) : Option (Bool ⊕ Unit) := RT P tab (.lp s_laws_eqTyS L_laws_eqTyS_L0) x
noncomputable def laws_eqTyS (x : (List Ty) × (List Ty)) : Option (Bool) := RT P tab (.fn s_laws_eqTyS) x
noncomputable def laws_eqTy (x : Ty × Ty) : Option (Bool) := RT P tab (.fn s_laws_eqTy) x
noncomputable def laws_heldIntS_L0 (x : (List Int) × Int × Int) : Option (Int ⊕ Int) := RT P tab (.lp s_laws_heldIntS L_laws_heldIntS_L0) x
noncomputable def laws_heldIntS (x : (List Int) × Int) : Option (Int) := RT P tab (.fn s_laws_heldIntS) x
noncomputable def laws_markText_L0 (x : Int × ByteArray) : Option (ByteArray) := RT P tab (.lp s_laws_markText L_laws_markText_L0) x
noncomputable def laws_markText (x : Int) : Option (ByteArray) := RT P tab (.fn s_laws_markText) x
end M
end W
