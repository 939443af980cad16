import Derived.Test.YtjigcimbakligaaUTab
set_option linter.unusedSimpArgs false
set_option linter.unusedVariables false
set_option linter.unusedSectionVars false
namespace W
open Go HL HL.X
set_option linter.unusedVariables false
set_option maxRecDepth 1000000
set_option maxHeartbeats 4000000
theorem meet_self {O : Type} (a : Option O) : X.meet a a = a := by simp [X.meet]
namespace M
theorem e_laws_big (x : List Int) : M.laws_big x = (some (decide (1048576 < (x.length : Int)))) :=
  (RT_eq P tab (.fn s_laws_big) x).trans (by kernel_rfl)
theorem e_spec_l1New_L0 (x : (List Int) × Int × Int) : M.spec_l1New_L0 x = (bif decide (x.2.2 < (x.1.length : Int)) then (bif decide (x.2.2 < 4000) then ((ix x.1 x.2.2).bind fun e1 =>
        spec_l1New_L0 (x.1, (andI .i64 (IntKind.i64.wrap ((IntKind.i64.wrap ((IntKind.i64.wrap (x.2.1 * 137)) + (IntKind.i64.wrap e1))) + 11)) 1073741823), (IntKind.i64.wrap (x.2.2 + 1)))) else
      some x.2.1) else
    some x.2.1) :=
  (RT_eq P tab (.lp s_spec_l1New L_spec_l1New_L0) x).trans (by kernel_rfl)
theorem e_spec_l1New (x : List Int) : M.spec_l1New x = ((spec_l1New_L0 (x, (IntKind.i64.wrap (945945 + (x.length : Int))), 0)).bind fun s1 =>
    some (spec_l1Cur.mk x 0 s1)) :=
  (RT_eq P tab (.fn s_spec_l1New) x).trans (by kernel_rfl)
theorem e_spec_l1Byte (x : spec_l1Cur) : M.spec_l1Byte x = ((gd (0 ≤ (33 : Int))).bind fun _ =>
    (gd (0 ≤ (47 : Int))).bind fun _ =>
    bif decide (x.i < (x.b.length : Int)) then ((ix x.b x.i).bind fun e1 =>
      some ((andI .i64 (IntKind.i64.wrap ((andI .i64 (xorI .i64 (shrI .i64 (IntKind.i64.wrap ((IntKind.i64.wrap (x.h * 6364136223846793005)) + 1442695040888963407)) 33) (shrI .i64 (IntKind.i64.wrap ((IntKind.i64.wrap (x.h * 6364136223846793005)) + 1442695040888963407)) 47)) 255) + (IntKind.i64.wrap e1))) 255), (spec_l1Cur.mk x.b (IntKind.i64.wrap (x.i + 1)) (IntKind.i64.wrap ((IntKind.i64.wrap (x.h * 6364136223846793005)) + 1442695040888963407))))) else
    some ((andI .i64 (xorI .i64 (shrI .i64 (IntKind.i64.wrap ((IntKind.i64.wrap (x.h * 6364136223846793005)) + 1442695040888963407)) 33) (shrI .i64 (IntKind.i64.wrap ((IntKind.i64.wrap (x.h * 6364136223846793005)) + 1442695040888963407)) 47)) 255), (spec_l1Cur.mk x.b x.i (IntKind.i64.wrap ((IntKind.i64.wrap (x.h * 6364136223846793005)) + 1442695040888963407))))) :=
  (RT_eq P tab (.fn s_spec_l1Byte) x).trans (by kernel_rfl)
theorem e_spec_l1Below (x : Int × spec_l1Cur) : M.spec_l1Below x = (bif decide (x.1 ≤ 0) then some (0, x.2) else
    bif decide (x.1 ≤ 256) then ((spec_l1Byte x.2).bind fun r1 =>
      (gd (x.1 ≠ 0)).bind fun _ =>
      some ((r1.1.tmod x.1), r1.2)) else
    (spec_l1Byte x.2).bind fun r2 =>
    (spec_l1Byte r2.2).bind fun r3 =>
    (spec_l1Byte r3.2).bind fun r4 =>
    (gd (x.1 ≠ 0)).bind fun _ =>
    some (((IntKind.i64.wrap ((IntKind.i64.wrap ((IntKind.i64.wrap (r2.1 * 65536)) + (IntKind.i64.wrap (r3.1 * 256)))) + r4.1)).tmod x.1), r4.2)) :=
  (RT_eq P tab (.fn s_spec_l1Below) x).trans (by kernel_rfl)
theorem e_spec_l9Int (x : Unit) : M.spec_l9Int x = (some (Ty.mk 1 (⟨⟨[]⟩⟩ : ByteArray) 0 [])) :=
  (RT_eq P tab (.fn s_spec_l9Int) x).trans (by kernel_rfl)
theorem e_spec_l9Bool (x : Unit) : M.spec_l9Bool x = (some (Ty.mk 2 (⟨⟨[]⟩⟩ : ByteArray) 0 [])) :=
  (RT_eq P tab (.fn s_spec_l9Bool) x).trans (by kernel_rfl)
theorem e_spec_l1Str (x : (List ByteArray) × spec_l1Cur) : M.spec_l1Str x = ((spec_l1Below ((x.1.length : Int), x.2)).bind fun r1 =>
    (ix x.1 r1.1).bind fun e2 =>
    some (e2, r1.2)) :=
  (RT_eq P tab (.fn s_spec_l1Str) x).trans (by kernel_rfl)
theorem e_spec_l9Data (x : ByteArray) : M.spec_l9Data x = (some (Ty.mk 3 x 0 [])) :=
  (RT_eq P tab (.fn s_spec_l9Data) x).trans (by kernel_rfl)
theorem e_spec_l9Var (x : Int) : M.spec_l9Var x = (some (Ty.mk 5 (⟨⟨[]⟩⟩ : ByteArray) x [])) :=
  (RT_eq P tab (.fn s_spec_l9Var) x).trans (by kernel_rfl)
theorem e_spec_l9Fun (x : Ty × Ty) : M.spec_l9Fun x = (some (Ty.mk 4 (⟨⟨[]⟩⟩ : ByteArray) 0 [x.1, x.2])) :=
  (RT_eq P tab (.fn s_spec_l9Fun) x).trans (by kernel_rfl)
theorem e_spec_l9Draw (x : Int × spec_l1Cur) : M.spec_l9Draw x = ((spec_l1Below (8, x.2)).bind fun r1 =>
    bif decide (r1.1 = 0) then ((spec_l9Int ()).bind fun r2 =>
      some (r2, r1.2)) else
    bif decide (r1.1 = 1) then ((spec_l9Bool ()).bind fun r3 =>
      some (r3, r1.2)) else
    bif decide (r1.1 = 2) then ((spec_l1Str ([(⟨⟨[84]⟩⟩ : ByteArray), (⟨⟨[76]⟩⟩ : ByteArray)], r1.2)).bind fun r4 =>
      (spec_l9Data r4.1).bind fun r5 =>
      some (r5, r4.2)) else
    (bif decide (r1.1 = 3) then some (true, r1.2, (Ty.mk 0 (⟨⟨[]⟩⟩ : ByteArray) 0 [])) else
      some (decide (r1.1 = 4), r1.2, (Ty.mk 0 (⟨⟨[]⟩⟩ : ByteArray) 0 []))).bind fun s6 =>
    bif s6.1 then ((spec_l1Below (4, s6.2.1)).bind fun r7 =>
      (spec_l9Var r7.1).bind fun r8 =>
      some (r8, r7.2)) else
    bif decide (x.1 = 0) then ((spec_l1Below (4, s6.2.1)).bind fun r9 =>
      (spec_l9Var r9.1).bind fun r10 =>
      some (r10, r9.2)) else
    (spec_l9Draw ((IntKind.i64.wrap (x.1 - 1)), s6.2.1)).bind fun r11 =>
    (spec_l9Draw ((IntKind.i64.wrap (x.1 - 1)), r11.2)).bind fun r12 =>
    (spec_l9Fun (r11.1, r12.1)).bind fun r13 =>
    some (r13, r12.2)) :=
  (RT_eq P tab (.fn s_spec_l9Draw) x).trans (by kernel_rfl)
theorem e_spec_DrawTys (x : List Int) : M.spec_DrawTys x = ((spec_l1New x).bind fun r1 =>
    (spec_l9Draw (3, r1)).bind fun r2 =>
    (spec_l9Draw (3, r2.2)).bind fun r3 =>
    some (r2.1, r3.1)) :=
  (RT_eq P tab (.fn s_spec_DrawTys) x).trans (by kernel_rfl)
theorem e_impl_cloneTy_L0 (x : (List Ty) × Int × Int × Ty × Int × ByteArray × Int × (List Ty)) : M.impl_cloneTy_L0 x = (bif decide (x.2.2.1 < x.2.1) then ((ix x.1 x.2.2.1).bind fun e1 =>
      (impl_cloneTy e1).bind fun r2 =>
      (gd (x.2.2.2.2.2.2.2.length + [r2].length ≤ grow)).bind fun _ =>
      impl_cloneTy_L0 (x.1, x.2.1, (IntKind.i64.wrap (x.2.2.1 + 1)), x.2.2.2.1, x.2.2.2.2.1, x.2.2.2.2.2.1, x.2.2.2.2.2.2.1, (x.2.2.2.2.2.2.2 ++ [r2]))) else
    some (x.2.2.2.1, x.2.2.2.2.1, x.2.2.2.2.2.1, x.2.2.2.2.2.2.1, x.2.2.2.2.2.2.2)) :=
  (RT_eq P tab (.lp s_impl_cloneTy L_impl_cloneTy_L0) x).trans (by kernel_rfl)
theorem e_impl_cloneTy (x : Ty) : M.impl_cloneTy x = ((impl_cloneTy_L0 (x.L, (x.L.length : Int), 0, (Ty.mk 0 (⟨⟨[]⟩⟩ : ByteArray) 0 []), x.K, x.S, x.N, [])).bind fun s1 =>
    some (Ty.mk s1.2.1 s1.2.2.1 s1.2.2.2.1 s1.2.2.2.2)) :=
  (RT_eq P tab (.fn s_impl_cloneTy) x).trans (by kernel_rfl)
theorem e_impl_cloneTable_L0 (x : (List Ty) × Int × Int × (List Ty)) : M.impl_cloneTable_L0 x = (bif decide (x.2.2.1 < x.2.1) then ((ix x.1 x.2.2.1).bind fun e1 =>
      (impl_cloneTy e1).bind fun r2 =>
      (gd (x.2.2.2.length + [r2].length ≤ grow)).bind fun _ =>
      impl_cloneTable_L0 (x.1, x.2.1, (IntKind.i64.wrap (x.2.2.1 + 1)), (x.2.2.2 ++ [r2]))) else
    some x.2.2.2) :=
  (RT_eq P tab (.lp s_impl_cloneTable L_impl_cloneTable_L0) x).trans (by kernel_rfl)
theorem e_impl_cloneTable (x : List Ty) : M.impl_cloneTable x = ((impl_cloneTable_L0 (x, (x.length : Int), 0, [])).bind fun s1 =>
    some s1) :=
  (RT_eq P tab (.fn s_impl_cloneTable) x).trans (by kernel_rfl)
theorem e_impl_unifier_spend (x : Int × Bool × (List Ty)) : M.impl_unifier_spend x = ((bif x.2.1 then some ((IntKind.i64.wrap (x.1 - 1)), true) else
      some ((IntKind.i64.wrap (x.1 - 1)), decide ((IntKind.i64.wrap (x.1 - 1)) < 0))).bind fun s1 =>
    some ((!s1.2), s1.1, s1.2)) :=
  (RT_eq P tab (.fn s_impl_unifier_spend) x).trans (by kernel_rfl)
theorem e_impl_in (x : Int × Int × Int) : M.impl_in x = (bif decide (x.2.1 ≤ x.1) then some (decide (x.1 ≤ x.2.2)) else
    some false) :=
  (RT_eq P tab (.fn s_impl_in) x).trans (by kernel_rfl)
theorem e_impl_looked_L0 (x : Int × (List Ty) × Ty × Ty) : M.impl_looked_L0 x = (bif decide (x.1 ≤ (x.2.1.length : Int)) then (bif decide (x.2.2.1.K = 5) then ((impl_in (x.2.2.1.N, 0, (IntKind.i64.wrap ((x.2.1.length : Int) - 1)))).bind fun r1 =>
        bif r1 then ((gd (0 ≤ x.2.2.1.N)).bind fun _ =>
          (gd (x.2.2.1.N < (x.2.1.length : Int))).bind fun _ =>
          (x.2.1[x.2.2.1.N.toNat]?).bind fun e2 =>
          bif (!decide (e2.K = 0)) then ((gd (0 ≤ x.2.2.1.N)).bind fun _ =>
            (gd (x.2.2.1.N < (x.2.1.length : Int))).bind fun _ =>
            (x.2.1[x.2.2.1.N.toNat]?).bind fun e3 =>
            impl_looked_L0 ((IntKind.i64.wrap (x.1 + 1)), x.2.1, e3, x.2.2.2)) else
          some (x.2.2.1, x.2.2.2)) else
        some (x.2.2.1, x.2.2.2)) else
      some (x.2.2.1, x.2.2.2)) else
    some (x.2.2.1, x.2.2.2)) :=
  (RT_eq P tab (.lp s_impl_looked L_impl_looked_L0) x).trans (by kernel_rfl)
theorem e_impl_looked (x : Ty × (List Ty)) : M.impl_looked x = ((impl_looked_L0 (0, x.2, x.1, (Ty.mk 0 (⟨⟨[]⟩⟩ : ByteArray) 0 []))).bind fun s1 =>
    some s1.1) :=
  (RT_eq P tab (.fn s_impl_looked) x).trans (by kernel_rfl)
theorem e_impl_unifier_has_1 (x : Ty × Int × Int × Bool × (List Ty)) : M.impl_unifier_has_1 x = ((impl_unifier_has (x.2.1, x.1, x.2.2.1, x.2.2.2.1, x.2.2.2.2)).bind fun r1 =>
    some (r1.1, x.2.1, r1.2.1, r1.2.2)) :=
  (RT_eq P tab (.fn s_impl_unifier_has_1) x).trans (by kernel_rfl)
theorem e_slices_IndexFunc_impl_Ty_at_unifier_has_1_L0 (x : (List Ty) × Int × Int × Int × Int × Bool × (List Ty)) : M.slices_IndexFunc_impl_Ty_at_unifier_has_1_L0 x = (bif decide (x.2.2.1 < x.2.1) then ((ix x.1 x.2.2.1).bind fun e1 =>
      (impl_unifier_has_1 (e1, x.2.2.2.1, x.2.2.2.2.1, x.2.2.2.2.2.1, x.2.2.2.2.2.2)).bind fun r2 =>
      bif r2.1 then some (.inl (x.2.2.1, r2.2.1, r2.2.2.1, r2.2.2.2)) else
      slices_IndexFunc_impl_Ty_at_unifier_has_1_L0 (x.1, x.2.1, (IntKind.i64.wrap (x.2.2.1 + 1)), r2.2.1, r2.2.2.1, r2.2.2.2, x.2.2.2.2.2.2)) else
    some (.inr (x.2.2.2.1, x.2.2.2.2.1, x.2.2.2.2.2.1))) :=
  (RT_eq P tab (.lp s_slices_IndexFunc_impl_Ty_at_unifier_has_1 L_slices_IndexFunc_impl_Ty_at_unifier_has_1_L0) x).trans (by kernel_rfl)
theorem e_slices_IndexFunc_impl_Ty_at_unifier_has_1 (x : (List Ty) × Int × Int × Bool × (List Ty)) : M.slices_IndexFunc_impl_Ty_at_unifier_has_1 x = ((slices_IndexFunc_impl_Ty_at_unifier_has_1_L0 (x.1, (x.1.length : Int), 0, x.2.1, x.2.2.1, x.2.2.2.1, x.2.2.2.2)).bind fun s1 =>
    Sum.elim (fun a2 =>
      some (a2.1, a2.2.1, a2.2.2.1, a2.2.2.2)) (fun b3 =>
      some ((-1), b3.1, b3.2.1, b3.2.2)) s1) :=
  (RT_eq P tab (.fn s_slices_IndexFunc_impl_Ty_at_unifier_has_1) x).trans (by kernel_rfl)
theorem e_slices_ContainsFunc_impl_Ty_at_unifier_has_1 (x : (List Ty) × Int × Int × Bool × (List Ty)) : M.slices_ContainsFunc_impl_Ty_at_unifier_has_1 x = ((slices_IndexFunc_impl_Ty_at_unifier_has_1 (x.1, x.2.1, x.2.2.1, x.2.2.2.1, x.2.2.2.2)).bind fun r1 =>
    some (decide (0 ≤ r1.1), r1.2.1, r1.2.2.1, r1.2.2.2)) :=
  (RT_eq P tab (.fn s_slices_ContainsFunc_impl_Ty_at_unifier_has_1) x).trans (by kernel_rfl)
theorem e_impl_unifier_has (x : Int × Ty × Int × Bool × (List Ty)) : M.impl_unifier_has x = ((impl_unifier_spend (x.2.2.1, x.2.2.2.1, x.2.2.2.2)).bind fun r1 =>
    bif (!r1.1) then some (true, r1.2.1, r1.2.2) else
    (impl_looked (x.2.1, x.2.2.2.2)).bind fun r2 =>
    bif decide (r2.K = 5) then some (decide (r2.N = x.1), r1.2.1, r1.2.2) else
    (slices_ContainsFunc_impl_Ty_at_unifier_has_1 (r2.L, x.1, r1.2.1, r1.2.2, x.2.2.2.2)).bind fun r3 =>
    some (r3.1, r3.2.2.1, r3.2.2.2)) :=
  (RT_eq P tab (.fn s_impl_unifier_has) x).trans (by kernel_rfl)
theorem f_impl_unifier_know_L0 (x : Int × Int × Bool × (List Ty) × Ty) : M.impl_unifier_know_L0 x = (bif decide ((x.2.2.2.1.length : Int) ≤ x.1) then ((gd (x.2.2.2.1.length + [(Ty.mk 0 (⟨⟨[]⟩⟩ : ByteArray) 0 [])].length ≤ grow)).bind fun _ =>
      (gd (0 ≤ (x.2.2.2.1.length : Int))).bind fun _ =>
      (gd ((x.2.2.2.1.length : Int) < ((x.2.2.2.1 ++ [(Ty.mk 0 (⟨⟨[]⟩⟩ : ByteArray) 0 [])]).length : Int))).bind fun _ =>
      X.meet (impl_unifier_know_L0 (x.1, x.2.1, x.2.2.1, ((x.2.2.2.1 ++ [(Ty.mk 0 (⟨⟨[]⟩⟩ : ByteArray) 0 [])]).set (x.2.2.2.1.length : Int).toNat (Ty.mk 0 (⟨⟨[]⟩⟩ : ByteArray) 0 [])), x.2.2.2.2)) (impl_unifier_know_L0 (x.1, x.2.1, x.2.2.1, ((x.2.2.2.1 ++ [(Ty.mk 0 (⟨⟨[]⟩⟩ : ByteArray) 0 [])]).set (x.2.2.2.1.length : Int).toNat (Ty.mk 0 (⟨⟨[]⟩⟩ : ByteArray) 0 [])), x.2.2.2.2))) else
    some (x.2.1, x.2.2.1, x.2.2.2.1, x.2.2.2.2)) :=
  (RT_eq P tab (.lp s_impl_unifier_know L_impl_unifier_know_L0) x).trans (by kernel_rfl)
theorem e_impl_unifier_know_L0 (x : Int × Int × Bool × (List Ty) × Ty) : M.impl_unifier_know_L0 x = (bif decide ((x.2.2.2.1.length : Int) ≤ x.1) then ((gd (x.2.2.2.1.length + [(Ty.mk 0 (⟨⟨[]⟩⟩ : ByteArray) 0 [])].length ≤ grow)).bind fun _ =>
      (gd (0 ≤ (x.2.2.2.1.length : Int))).bind fun _ =>
      (gd ((x.2.2.2.1.length : Int) < ((x.2.2.2.1 ++ [(Ty.mk 0 (⟨⟨[]⟩⟩ : ByteArray) 0 [])]).length : Int))).bind fun _ =>
      impl_unifier_know_L0 (x.1, x.2.1, x.2.2.1, ((x.2.2.2.1 ++ [(Ty.mk 0 (⟨⟨[]⟩⟩ : ByteArray) 0 [])]).set (x.2.2.2.1.length : Int).toNat (Ty.mk 0 (⟨⟨[]⟩⟩ : ByteArray) 0 [])), x.2.2.2.2)) else
    some (x.2.1, x.2.2.1, x.2.2.2.1, x.2.2.2.2)) := by
  have h := f_impl_unifier_know_L0 x
  simp only [meet_self] at h
  exact h
theorem e_impl_unifier_know (x : Int × Ty × Int × Bool × (List Ty)) : M.impl_unifier_know x = (((impl_in (x.1, 0, 499)).bind fun r1 =>
      bif (!r1) then some (true, x.2.2.1, x.2.2.2.1, x.2.1) else
      (impl_unifier_has (x.1, x.2.1, x.2.2.1, x.2.2.2.1, x.2.2.2.2)).bind fun r2 =>
      some (r2.1, r2.2.1, r2.2.2, x.2.1)).bind fun s3 =>
    bif s3.1 then some (s3.2.1, true, x.2.2.2.2) else
    (impl_unifier_know_L0 (x.1, s3.2.1, s3.2.2.1, x.2.2.2.2, s3.2.2.2)).bind fun s4 =>
    (impl_cloneTy s4.2.2.2).bind fun r5 =>
    (gd (0 ≤ x.1)).bind fun _ =>
    (gd (x.1 < (s4.2.2.1.length : Int))).bind fun _ =>
    some (s4.1, s4.2.1, (s4.2.2.1.set x.1.toNat r5))) :=
  (RT_eq P tab (.fn s_impl_unifier_know) x).trans (by kernel_rfl)
theorem e_slices_EqualFunc_impl_Ty_at_SameTy_L0 (x : (List Ty) × (List Ty) × Int × Int) : M.slices_EqualFunc_impl_Ty_at_SameTy_L0 x = (bif decide (x.2.2.2 < x.2.2.1) then ((ix x.2.1 x.2.2.2).bind fun e1 =>
      (ix x.1 x.2.2.2).bind fun e2 =>
      (impl_SameTy (e1, e2)).bind fun r3 =>
      bif (!r3) then some (.inl false) else
      slices_EqualFunc_impl_Ty_at_SameTy_L0 (x.1, x.2.1, x.2.2.1, (IntKind.i64.wrap (x.2.2.2 + 1)))) else
    some (.inr ())) :=
  (RT_eq P tab (.lp s_slices_EqualFunc_impl_Ty_at_SameTy L_slices_EqualFunc_impl_Ty_at_SameTy_L0) x).trans (by kernel_rfl)
theorem e_slices_EqualFunc_impl_Ty_at_SameTy (x : (List Ty) × (List Ty)) : M.slices_EqualFunc_impl_Ty_at_SameTy x = (bif (!decide ((x.1.length : Int) = (x.2.length : Int))) then some false else
    (slices_EqualFunc_impl_Ty_at_SameTy_L0 (x.2, x.1, (x.1.length : Int), 0)).bind fun s1 =>
    Sum.elim (fun a2 =>
      some a2) (fun b3 =>
      some true) s1) :=
  (RT_eq P tab (.fn s_slices_EqualFunc_impl_Ty_at_SameTy) x).trans (by kernel_rfl)
theorem e_impl_SameTy (x : Ty × Ty) : M.impl_SameTy x = (bif decide (x.1.K = x.2.K) then (bif decide (x.1.S = x.2.S) then (bif decide (x.1.N = x.2.N) then ((slices_EqualFunc_impl_Ty_at_SameTy (x.1.L, x.2.L)).bind fun r1 =>
          some r1) else
        some false) else
      some false) else
    some false) :=
  (RT_eq P tab (.fn s_impl_SameTy) x).trans (by kernel_rfl)
theorem e_impl_unifier_both (x : Ty × Ty × Int × Bool × (List Ty)) : M.impl_unifier_both x = ((impl_unifier_spend (x.2.2.1, x.2.2.2.1, x.2.2.2.2)).bind fun r1 =>
    bif (!r1.1) then some (r1.2.1, r1.2.2, x.2.2.2.2) else
    (impl_looked (x.1, x.2.2.2.2)).bind fun r2 =>
    (impl_looked (x.2.1, x.2.2.2.2)).bind fun r3 =>
    (bif decide (r2.K = 5) then (bif decide (r3.K = 5) then some (decide (r2.N = r3.N), r1.2.1, r1.2.2, r2, r3) else
        some (false, r1.2.1, r1.2.2, r2, r3)) else
      some (false, r1.2.1, r1.2.2, r2, r3)).bind fun s4 =>
    bif s4.1 then (bif s4.2.2.1 then some (s4.2.1, true, x.2.2.2.2) else
      (impl_in (s4.2.2.2.1.N, 0, 499)).bind fun r5 =>
      some (s4.2.1, (!r5), x.2.2.2.2)) else
    bif decide (s4.2.2.2.1.K = 5) then ((impl_unifier_know (s4.2.2.2.1.N, s4.2.2.2.2, s4.2.1, s4.2.2.1, x.2.2.2.2)).bind fun r6 =>
      some (r6.1, r6.2.1, r6.2.2)) else
    bif decide (s4.2.2.2.2.K = 5) then ((impl_unifier_know (s4.2.2.2.2.N, s4.2.2.2.1, s4.2.1, s4.2.2.1, x.2.2.2.2)).bind fun r7 =>
      some (r7.1, r7.2.1, r7.2.2)) else
    (bif decide (s4.2.2.2.1.K = 4) then (bif decide (s4.2.2.2.2.K = 4) then (bif decide ((s4.2.2.2.1.L.length : Int) = 2) then some (decide ((s4.2.2.2.2.L.length : Int) = 2), s4.2.1, s4.2.2.1, s4.2.2.2.1, s4.2.2.2.2) else
          some (false, s4.2.1, s4.2.2.1, s4.2.2.2.1, s4.2.2.2.2)) else
        some (false, s4.2.1, s4.2.2.1, s4.2.2.2.1, s4.2.2.2.2)) else
      some (false, s4.2.1, s4.2.2.1, s4.2.2.2.1, s4.2.2.2.2)).bind fun s8 =>
    bif s8.1 then ((ix s8.2.2.2.1.L 0).bind fun e9 =>
      (ix s8.2.2.2.2.L 0).bind fun e10 =>
      (impl_unifier_both (e9, e10, s8.2.1, s8.2.2.1, x.2.2.2.2)).bind fun r11 =>
      (ix s8.2.2.2.1.L 1).bind fun e12 =>
      (ix s8.2.2.2.2.L 1).bind fun e13 =>
      (impl_unifier_both (e12, e13, r11.1, r11.2.1, r11.2.2)).bind fun r14 =>
      some (r14.1, r14.2.1, r14.2.2)) else
    bif s8.2.2.1 then some (s8.2.1, true, x.2.2.2.2) else
    (impl_in (s8.2.2.2.1.K, 1, 3)).bind fun r15 =>
    bif (!r15) then some (s8.2.1, true, x.2.2.2.2) else
    (impl_SameTy (s8.2.2.2.1, s8.2.2.2.2)).bind fun r16 =>
    some (s8.2.1, (!r16), x.2.2.2.2)) :=
  (RT_eq P tab (.fn s_impl_unifier_both) x).trans (by kernel_rfl)
theorem e_impl_Unify (x : (List Ty) × Ty × Ty) : M.impl_Unify x = ((impl_cloneTable x.1).bind fun r1 =>
    (impl_unifier_both (x.2.1, x.2.2, 20000, false, r1)).bind fun r2 =>
    bif r2.2.1 then ((impl_cloneTable x.1).bind fun r3 =>
      some (false, r3)) else
    some (true, r2.2.2)) :=
  (RT_eq P tab (.fn s_impl_Unify) x).trans (by kernel_rfl)
theorem e_laws_sameTy_L0 (x : Int × Ty × Ty) : M.laws_sameTy_L0 x = (bif decide (x.1 < (x.2.1.L.length : Int)) then ((ix x.2.1.L x.1).bind fun e1 =>
      (ix x.2.2.L x.1).bind fun e2 =>
      (laws_sameTy (e1, e2)).bind fun r3 =>
      bif (!r3) then some (.inl false) else
      laws_sameTy_L0 ((IntKind.i64.wrap (x.1 + 1)), x.2.1, x.2.2)) else
    some (.inr ())) :=
  (RT_eq P tab (.lp s_laws_sameTy L_laws_sameTy_L0) x).trans (by kernel_rfl)
theorem e_laws_sameTy (x : Ty × Ty) : M.laws_sameTy x = (bif (!decide (x.1.K = x.2.K)) then some false else
    bif (!decide (x.1.S = x.2.S)) then some false else
    bif (!decide (x.1.N = x.2.N)) then some false else
    bif (!decide ((x.1.L.length : Int) = (x.2.L.length : Int))) then some false else
    (laws_sameTy_L0 (0, x.1, x.2)).bind fun s1 =>
    Sum.elim (fun a2 =>
      some a2) (fun b3 =>
      some true) s1) :=
  (RT_eq P tab (.fn s_laws_sameTy) x).trans (by kernel_rfl)
theorem e_impl_knower_ty_L0 (x : (List Ty) × Int × Int × Int × (List Ty) × Ty × Int × ByteArray × Int × (List Ty)) : M.impl_knower_ty_L0 x = (bif decide (x.2.2.1 < x.2.1) then ((ix x.1 x.2.2.1).bind fun e1 =>
      (impl_knower_ty (e1, x.2.2.2.1, x.2.2.2.2.1)).bind fun r2 =>
      (gd (x.2.2.2.2.2.2.2.2.2.length + [r2.1].length ≤ grow)).bind fun _ =>
      impl_knower_ty_L0 (x.1, x.2.1, (IntKind.i64.wrap (x.2.2.1 + 1)), r2.2, x.2.2.2.2.1, x.2.2.2.2.2.1, x.2.2.2.2.2.2.1, x.2.2.2.2.2.2.2.1, x.2.2.2.2.2.2.2.2.1, (x.2.2.2.2.2.2.2.2.2 ++ [r2.1]))) else
    some (x.2.2.2.1, x.2.2.2.2.2.1, x.2.2.2.2.2.2.1, x.2.2.2.2.2.2.2.1, x.2.2.2.2.2.2.2.2.1, x.2.2.2.2.2.2.2.2.2)) :=
  (RT_eq P tab (.lp s_impl_knower_ty L_impl_knower_ty_L0) x).trans (by kernel_rfl)
theorem e_impl_knower_ty (x : Ty × Int × (List Ty)) : M.impl_knower_ty x = (bif decide (x.2.1 = 0) then ((impl_cloneTy x.1).bind fun r1 =>
      some (r1, x.2.1)) else
    (impl_looked (x.1, x.2.2)).bind fun r2 =>
    (impl_knower_ty_L0 (r2.L, (r2.L.length : Int), 0, (IntKind.i64.wrap (x.2.1 - 1)), x.2.2, (Ty.mk 0 (⟨⟨[]⟩⟩ : ByteArray) 0 []), r2.K, r2.S, r2.N, [])).bind fun s3 =>
    some ((Ty.mk s3.2.2.1 s3.2.2.2.1 s3.2.2.2.2.1 s3.2.2.2.2.2), s3.1)) :=
  (RT_eq P tab (.fn s_impl_knower_ty) x).trans (by kernel_rfl)
theorem e_impl_Known (x : Ty × (List Ty)) : M.impl_Known x = ((impl_knower_ty (x.1, 3000, x.2)).bind fun r1 =>
    some r1.1) :=
  (RT_eq P tab (.fn s_impl_Known) x).trans (by kernel_rfl)
theorem e_slices_Index_int_L0 (x : Int × Int × Int × (List Int)) : M.slices_Index_int_L0 x = (bif decide (x.2.2.1 < x.2.1) then ((gd (0 ≤ x.2.2.1)).bind fun _ =>
      (gd (x.2.2.1 < (x.2.2.2.length : Int))).bind fun _ =>
      (x.2.2.2[x.2.2.1.toNat]?).bind fun e1 =>
      bif decide (x.1 = e1) then some (.inl x.2.2.1) else
      slices_Index_int_L0 (x.1, x.2.1, (IntKind.i64.wrap (x.2.2.1 + 1)), x.2.2.2)) else
    some (.inr ())) :=
  (RT_eq P tab (.lp s_slices_Index_int L_slices_Index_int_L0) x).trans (by kernel_rfl)
theorem e_slices_Index_int (x : Int × (List Int)) : M.slices_Index_int x = ((slices_Index_int_L0 (x.1, (x.2.length : Int), 0, x.2)).bind fun s1 =>
    Sum.elim (fun a2 =>
      some a2) (fun b3 =>
      some (-1)) s1) :=
  (RT_eq P tab (.fn s_slices_Index_int) x).trans (by kernel_rfl)
theorem e_slices_Contains_int (x : Int × (List Int)) : M.slices_Contains_int x = ((slices_Index_int (x.1, x.2)).bind fun r1 =>
    some (decide (0 ≤ r1))) :=
  (RT_eq P tab (.fn s_slices_Contains_int) x).trans (by kernel_rfl)
theorem e_impl_varsIn_L0 (x : (List Ty) × Int × Int × (List Int)) : M.impl_varsIn_L0 x = (bif decide (x.2.2.1 < x.2.1) then ((ix x.1 x.2.2.1).bind fun e1 =>
      (impl_varsIn (e1, x.2.2.2)).bind fun r2 =>
      impl_varsIn_L0 (x.1, x.2.1, (IntKind.i64.wrap (x.2.2.1 + 1)), r2)) else
    some x.2.2.2) :=
  (RT_eq P tab (.lp s_impl_varsIn L_impl_varsIn_L0) x).trans (by kernel_rfl)
theorem e_impl_varsIn (x : Ty × (List Int)) : M.impl_varsIn x = (((bif decide (x.1.K = 5) then ((slices_Contains_int (x.1.N, x.2)).bind fun r1 =>
          some ((!r1), x.1)) else
        some (false, x.1)).bind fun s2 =>
      bif s2.1 then ((gd (x.2.length + [s2.2.N].length ≤ grow)).bind fun _ =>
        some ((x.2 ++ [s2.2.N]), s2.2)) else
      some (x.2, s2.2)).bind fun s3 =>
    (impl_varsIn_L0 (s3.2.L, (s3.2.L.length : Int), 0, s3.1)).bind fun s4 =>
    some s4) :=
  (RT_eq P tab (.fn s_impl_varsIn) x).trans (by kernel_rfl)
theorem e_impl_VarsOf (x : Ty) : M.impl_VarsOf x = ((impl_varsIn (x, [])).bind fun r1 =>
    some r1) :=
  (RT_eq P tab (.fn s_impl_VarsOf) x).trans (by kernel_rfl)
theorem e_laws_FnUnified (x : List Int) : M.laws_FnUnified x = ((laws_big x).bind fun r1 =>
    bif r1 then some true else
    (spec_DrawTys x).bind fun r2 =>
    (impl_Unify ([], r2.1, r2.2)).bind fun r3 =>
    (impl_Unify ([], r2.2, r2.1)).bind fun r4 =>
    (impl_Unify ([], r2.1, r2.1)).bind fun r5 =>
    bif (!(r3.1 == r4.1)) then some false else
    bif (!r5.1) then some false else
    bif (!decide ((r5.2.length : Int) = 0)) then some false else
    bif (!r3.1) then (bif decide ((r3.2.length : Int) = 0) then ((laws_sameTy (r2.1, r2.2)).bind fun r6 =>
        some (!r6)) else
      some false) else
    (impl_Known (r2.1, r3.2)).bind fun r7 =>
    (impl_Known (r2.2, r3.2)).bind fun r8 =>
    (laws_sameTy (r7, r8)).bind fun r9 =>
    bif r9 then ((impl_Known (r7, r3.2)).bind fun r10 =>
      (laws_sameTy (r10, r7)).bind fun r11 =>
      bif r11 then ((impl_Known (r2.1, r4.2)).bind fun r12 =>
        (impl_Known (r2.2, r4.2)).bind fun r13 =>
        (laws_sameTy (r12, r13)).bind fun r14 =>
        bif r14 then ((impl_VarsOf r7).bind fun r15 =>
          (impl_Known (r2.1, r4.2)).bind fun r16 =>
          (impl_VarsOf r16).bind fun r17 =>
          some (decide ((r15.length : Int) = (r17.length : Int)))) else
        some false) else
      some false) else
    some false) :=
  (RT_eq P tab (.fn s_laws_FnUnified) x).trans (by kernel_rfl)
end M
end W
