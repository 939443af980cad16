import Derived.Test.YtmpenomcfdihgaaVTab
set_option linter.unusedSimpArgs false
set_option linter.unusedVariables false
set_option linter.unusedSectionVars false
namespace W
open Go HL HL.X
set_option linter.unusedVariables false
set_option maxRecDepth 1000000
set_option maxHeartbeats 4000000
theorem meet_self {O : Type} (a : Option O) : X.meet a a = a := by simp [X.meet]
namespace M
theorem e_laws_szTyS_L0 (x : (List Ty) × Int × Int) : M.laws_szTyS_L0 x = (bif decide (x.2.2 < (x.1.length : Int)) then ((ix x.1 x.2.2).bind fun e1 =>
      (laws_szTy (e1, x.2.1)).bind fun r2 =>
      bif decide (r2 < 0) then some (.inl (-1)) else
      laws_szTyS_L0 (x.1, r2, (IntKind.i64.wrap (x.2.2 + 1)))) else
    some (.inr x.2.1)) :=
  (RT_eq P tab (.lp s_laws_szTyS L_laws_szTyS_L0) x).trans (by kernel_rfl)
theorem e_laws_szTyS (x : (List Ty) × Int) : M.laws_szTyS x = (bif decide ((IntKind.i64.wrap (x.2 - (x.1.length : Int))) < 0) then some (-1) else
    (laws_szTyS_L0 (x.1, (IntKind.i64.wrap (x.2 - (x.1.length : Int))), 0)).bind fun s1 =>
    Sum.elim (fun a2 =>
      some a2) (fun b3 =>
      some b3) s1) :=
  (RT_eq P tab (.fn s_laws_szTyS) x).trans (by kernel_rfl)
theorem e_laws_szTy (x : Ty × Int) : M.laws_szTy x = (bif decide ((IntKind.i64.wrap (x.2 - (x.1.S.size : Int))) < 0) then some (-1) else
    (laws_szTyS (x.1.L, (IntKind.i64.wrap (x.2 - (x.1.S.size : Int))))).bind fun r1 =>
    bif decide (r1 < 0) then some (-1) else
    some r1) :=
  (RT_eq P tab (.fn s_laws_szTy) x).trans (by kernel_rfl)
theorem e_laws_toTyS_L0 (x : (List Ty) × Int × (List Ty)) : M.laws_toTyS_L0 x = (bif decide (x.2.1 < (x.1.length : Int)) then ((ix x.1 x.2.1).bind fun e1 =>
      (laws_toTy e1).bind fun r2 =>
      (gd (0 ≤ x.2.1)).bind fun _ =>
      (gd (x.2.1 < (x.2.2.length : Int))).bind fun _ =>
      laws_toTyS_L0 (x.1, (IntKind.i64.wrap (x.2.1 + 1)), (x.2.2.set x.2.1.toNat r2))) else
    some x.2.2) :=
  (RT_eq P tab (.lp s_laws_toTyS L_laws_toTyS_L0) x).trans (by kernel_rfl)
theorem e_laws_toTyS (x : List Ty) : M.laws_toTyS x = ((gd (0 ≤ (x.length : Int))).bind fun _ =>
    (gd ((x.length : Int) ≤ 1099511627776)).bind fun _ =>
    (laws_toTyS_L0 (x, 0, (List.replicate ((x.length : Int).toNat) (Ty.mk 0 (⟨⟨[]⟩⟩ : ByteArray) 0 [])))).bind fun s1 =>
    some s1) :=
  (RT_eq P tab (.fn s_laws_toTyS) x).trans (by kernel_rfl)
theorem e_laws_toTy (x : Ty) : M.laws_toTy x = ((laws_toTyS x.L).bind fun r1 =>
    some (Ty.mk x.K x.S x.N r1)) :=
  (RT_eq P tab (.fn s_laws_toTy) x).trans (by kernel_rfl)
theorem e_spec_l9Has_L0 (x : (List Int) × Int × Int) : M.spec_l9Has_L0 x = (bif decide (x.2.2 < (x.1.length : Int)) then ((ix x.1 x.2.2).bind fun e1 =>
      bif decide (e1 = x.2.1) then some (.inl true) else
      spec_l9Has_L0 (x.1, x.2.1, (IntKind.i64.wrap (x.2.2 + 1)))) else
    some (.inr ())) :=
  (RT_eq P tab (.lp s_spec_l9Has L_spec_l9Has_L0) x).trans (by kernel_rfl)
theorem e_spec_l9Has (x : (List Int) × Int) : M.spec_l9Has x = ((spec_l9Has_L0 (x.1, x.2, 0)).bind fun s1 =>
    Sum.elim (fun a2 =>
      some a2) (fun b3 =>
      some false) s1) :=
  (RT_eq P tab (.fn s_spec_l9Has) x).trans (by kernel_rfl)
theorem e_spec_l9Vars_L0 (x : (List Int) × Int × Ty) : M.spec_l9Vars_L0 x = (bif decide (x.2.1 < (x.2.2.L.length : Int)) then ((ix x.2.2.L x.2.1).bind fun e1 =>
      (spec_l9Vars (x.1, e1)).bind fun r2 =>
      spec_l9Vars_L0 (r2, (IntKind.i64.wrap (x.2.1 + 1)), x.2.2)) else
    some x.1) :=
  (RT_eq P tab (.lp s_spec_l9Vars L_spec_l9Vars_L0) x).trans (by kernel_rfl)
theorem e_spec_l9Vars (x : (List Int) × Ty) : M.spec_l9Vars x = (((bif decide (x.2.K = 5) then ((spec_l9Has (x.1, x.2.N)).bind fun r1 =>
          some ((!r1), x.2)) else
        some (false, x.2)).bind fun s2 =>
      bif s2.1 then (X.meet (X.meet ((gd (x.1.length ≤ grow)).bind fun _ =>
            (gd (x.1.length + [s2.2.N].length ≤ grow)).bind fun _ =>
            some ((x.1 ++ [s2.2.N]), s2.2)) ((gd (x.1.length ≤ grow)).bind fun _ =>
            (gd (x.1.length + [s2.2.N].length ≤ grow)).bind fun _ =>
            some ((x.1 ++ [s2.2.N]), s2.2))) ((gd (x.1.length ≤ grow)).bind fun _ =>
          (gd (x.1.length + [s2.2.N].length ≤ grow)).bind fun _ =>
          some ((x.1 ++ [s2.2.N]), s2.2))) else
      some (x.1, s2.2)).bind fun s3 =>
    (spec_l9Vars_L0 (s3.1, 0, s3.2)).bind fun s4 =>
    some s4) :=
  (RT_eq P tab (.fn s_spec_l9Vars) x).trans (by kernel_rfl)
theorem e_spec_VarsOf (x : Ty) : M.spec_VarsOf x = ((spec_l9Vars ([], x)).bind fun r1 =>
    some r1) :=
  (RT_eq P tab (.fn s_spec_VarsOf) x).trans (by kernel_rfl)
theorem e_slices_Index_int_L0 (x : Int × Int × Int × (List Int)) : M.slices_Index_int_L0 x = (bif decide (x.2.2.1 < x.2.1) then ((gd (0 ≤ x.2.2.1)).bind fun _ =>
      (gd (x.2.2.1 < (x.2.2.2.length : Int))).bind fun _ =>
      (x.2.2.2[x.2.2.1.toNat]?).bind fun e1 =>
      bif decide (x.1 = e1) then some (.inl x.2.2.1) else
      slices_Index_int_L0 (x.1, x.2.1, (IntKind.i64.wrap (x.2.2.1 + 1)), x.2.2.2)) else
    some (.inr ())) :=
  (RT_eq P tab (.lp s_slices_Index_int L_slices_Index_int_L0) x).trans (by kernel_rfl)
theorem e_slices_Index_int (x : Int × (List Int)) : M.slices_Index_int x = ((slices_Index_int_L0 (x.1, (x.2.length : Int), 0, x.2)).bind fun s1 =>
    Sum.elim (fun a2 =>
      some a2) (fun b3 =>
      some (-1)) s1) :=
  (RT_eq P tab (.fn s_slices_Index_int) x).trans (by kernel_rfl)
theorem e_slices_Contains_int (x : Int × (List Int)) : M.slices_Contains_int x = ((slices_Index_int (x.1, x.2)).bind fun r1 =>
    some (decide (0 ≤ r1))) :=
  (RT_eq P tab (.fn s_slices_Contains_int) x).trans (by kernel_rfl)
theorem e_impl_varsIn_L0 (x : (List Ty) × Int × Int × (List Int)) : M.impl_varsIn_L0 x = (bif decide (x.2.2.1 < x.2.1) then ((ix x.1 x.2.2.1).bind fun e1 =>
      (impl_varsIn (e1, x.2.2.2)).bind fun r2 =>
      impl_varsIn_L0 (x.1, x.2.1, (IntKind.i64.wrap (x.2.2.1 + 1)), r2)) else
    some x.2.2.2) :=
  (RT_eq P tab (.lp s_impl_varsIn L_impl_varsIn_L0) x).trans (by kernel_rfl)
theorem e_impl_varsIn (x : Ty × (List Int)) : M.impl_varsIn x = (((bif decide (x.1.K = 5) then ((slices_Contains_int (x.1.N, x.2)).bind fun r1 =>
          some ((!r1), x.1)) else
        some (false, x.1)).bind fun s2 =>
      bif s2.1 then ((gd (x.2.length + [s2.2.N].length ≤ grow)).bind fun _ =>
        some ((x.2 ++ [s2.2.N]), s2.2)) else
      some (x.2, s2.2)).bind fun s3 =>
    (impl_varsIn_L0 (s3.2.L, (s3.2.L.length : Int), 0, s3.1)).bind fun s4 =>
    some s4) :=
  (RT_eq P tab (.fn s_impl_varsIn) x).trans (by kernel_rfl)
theorem e_impl_VarsOf (x : Ty) : M.impl_VarsOf x = ((impl_varsIn (x, [])).bind fun r1 =>
    some r1) :=
  (RT_eq P tab (.fn s_impl_VarsOf) x).trans (by kernel_rfl)
theorem e_laws_eqIntS_L0 (x : (List Int) × (List Int) × Int) : M.laws_eqIntS_L0 x = (bif decide (x.2.2 < (x.1.length : Int)) then ((ix x.1 x.2.2).bind fun e1 =>
      (ix x.2.1 x.2.2).bind fun e2 =>
      bif (!decide (e1 = e2)) then some (.inl false) else
      laws_eqIntS_L0 (x.1, x.2.1, (IntKind.i64.wrap (x.2.2 + 1)))) else
    some (.inr ())) :=
  (RT_eq P tab (.lp s_laws_eqIntS L_laws_eqIntS_L0) x).trans (by kernel_rfl)
theorem e_laws_eqIntS (x : (List Int) × (List Int)) : M.laws_eqIntS x = (bif (!decide ((x.1.length : Int) = (x.2.length : Int))) then some false else
    (laws_eqIntS_L0 (x.1, x.2, 0)).bind fun s1 =>
    Sum.elim (fun a2 =>
      some a2) (fun b3 =>
      some true) s1) :=
  (RT_eq P tab (.fn s_laws_eqIntS) x).trans (by kernel_rfl)
theorem e_laws_eqTyS_L0 (x : (List Ty) × (List Ty) × Int) : M.laws_eqTyS_L0 x = (bif decide (x.2.2 < (x.1.length : Int)) then ((ix x.1 x.2.2).bind fun e1 =>
      (ix x.2.1 x.2.2).bind fun e2 =>
      (laws_eqTy (e1, e2)).bind fun r3 =>
      bif (!r3) then some (.inl false) else
      laws_eqTyS_L0 (x.1, x.2.1, (IntKind.i64.wrap (x.2.2 + 1)))) else
    some (.inr ())) :=
  (RT_eq P tab (.lp s_laws_eqTyS L_laws_eqTyS_L0) x).trans (by kernel_rfl)
theorem e_laws_eqTyS (x : (List Ty) × (List Ty)) : M.laws_eqTyS x = (bif (!decide ((x.1.length : Int) = (x.2.length : Int))) then some false else
    (laws_eqTyS_L0 (x.1, x.2, 0)).bind fun s1 =>
    Sum.elim (fun a2 =>
      some a2) (fun b3 =>
      some true) s1) :=
  (RT_eq P tab (.fn s_laws_eqTyS) x).trans (by kernel_rfl)
theorem e_laws_eqTy (x : Ty × Ty) : M.laws_eqTy x = (bif (!decide (x.1.K = x.2.K)) then some false else
    bif (!decide (x.1.S = x.2.S)) then some false else
    bif (!decide (x.1.N = x.2.N)) then some false else
    (laws_eqTyS (x.1.L, x.2.L)).bind fun r1 =>
    bif (!r1) then some false else
    some true) :=
  (RT_eq P tab (.fn s_laws_eqTy) x).trans (by kernel_rfl)
theorem e_laws_heldIntS_L0 (x : (List Int) × Int × Int) : M.laws_heldIntS_L0 x = (bif decide (x.2.2 < (x.1.length : Int)) then ((ix x.1 x.2.2).bind fun e1 =>
      bif (!decide (e1 = x.2.1)) then some (.inl (-1)) else
      laws_heldIntS_L0 (x.1, (IntKind.i64.wrap (x.2.1 + 1)), (IntKind.i64.wrap (x.2.2 + 1)))) else
    some (.inr x.2.1)) :=
  (RT_eq P tab (.lp s_laws_heldIntS L_laws_heldIntS_L0) x).trans (by kernel_rfl)
theorem e_laws_heldIntS (x : (List Int) × Int) : M.laws_heldIntS x = ((laws_heldIntS_L0 (x.1, x.2, 0)).bind fun s1 =>
    Sum.elim (fun a2 =>
      some a2) (fun b3 =>
      some b3) s1) :=
  (RT_eq P tab (.fn s_laws_heldIntS) x).trans (by kernel_rfl)
theorem e_laws_markText_L0 (x : Int × ByteArray) : M.laws_markText_L0 x = (bif decide (0 < x.1) then ((gd ((10 : Int) ≠ 0)).bind fun _ =>
      (gd ((bsOf [(IntKind.u8.wrap (IntKind.i64.wrap (48 + (x.1.tmod 10))))]).size + x.2.size ≤ lim)).bind fun _ =>
      (gd ((10 : Int) ≠ 0)).bind fun _ =>
      laws_markText_L0 ((IntKind.i64.wrap (x.1.tdiv 10)), ((bsOf [(IntKind.u8.wrap (IntKind.i64.wrap (48 + (x.1.tmod 10))))]) ++ x.2))) else
    some x.2) :=
  (RT_eq P tab (.lp s_laws_markText L_laws_markText_L0) x).trans (by kernel_rfl)
theorem e_laws_markText (x : Int) : M.laws_markText x = (bif decide (x ≤ 0) then some (⟨⟨[109, 48]⟩⟩ : ByteArray) else
    (laws_markText_L0 (x, (⟨⟨[]⟩⟩ : ByteArray))).bind fun s1 =>
    (gd ((⟨⟨[109]⟩⟩ : ByteArray).size + s1.size ≤ lim)).bind fun _ =>
    some ((⟨⟨[109]⟩⟩ : ByteArray) ++ s1)) :=
  (RT_eq P tab (.fn s_laws_markText) x).trans (by kernel_rfl)
end M
end W
