import Derived.Test.YtoojgahbfpdhgaaNTab
set_option linter.unusedSimpArgs false
set_option linter.unusedVariables false
set_option linter.unusedSectionVars false
namespace W
open Go HL HL.X
set_option linter.unusedVariables false
set_option maxRecDepth 1000000
set_option maxHeartbeats 4000000
theorem meet_self {O : Type} (a : Option O) : X.meet a a = a := by simp [X.meet]
namespace M
theorem e_laws_szTy (x : Ty × Int) : M.laws_szTy x = (bif decide ((IntKind.i64.wrap (x.2 - (x.1.S.size : Int))) < 0) then some (-1) else
    (laws_szTyS (x.1.L, (IntKind.i64.wrap (x.2 - (x.1.S.size : Int))))).bind fun r1 =>
    bif decide (r1 < 0) then some (-1) else
    some r1) :=
  (RT_eq P tab (.fn s_laws_szTy) x).trans (by kernel_rfl)
theorem e_laws_szTyS_L0 (x : (List Ty) × Int × Int) : M.laws_szTyS_L0 x = (bif decide (x.2.2 < (x.1.length : Int)) then ((ix x.1 x.2.2).bind fun e1 =>
      (laws_szTy (e1, x.2.1)).bind fun r2 =>
      bif decide (r2 < 0) then some (.inl (-1)) else
      laws_szTyS_L0 (x.1, r2, (IntKind.i64.wrap (x.2.2 + 1)))) else
    some (.inr x.2.1)) :=
  (RT_eq P tab (.lp s_laws_szTyS L_laws_szTyS_L0) x).trans (by kernel_rfl)
theorem e_laws_szTyS (x : (List Ty) × Int) : M.laws_szTyS x = (bif decide ((IntKind.i64.wrap (x.2 - (x.1.length : Int))) < 0) then some (-1) else
    (laws_szTyS_L0 (x.1, (IntKind.i64.wrap (x.2 - (x.1.length : Int))), 0)).bind fun s1 =>
    Sum.elim (fun a2 =>
      some a2) (fun b3 =>
      some b3) s1) :=
  (RT_eq P tab (.fn s_laws_szTyS) x).trans (by kernel_rfl)
theorem e_laws_szCon (x : Con × Int) : M.laws_szCon x = (bif decide ((IntKind.i64.wrap (x.2 - (x.1.Name.size : Int))) < 0) then some (-1) else
    (laws_szTyS (x.1.Args, (IntKind.i64.wrap (x.2 - (x.1.Name.size : Int))))).bind fun r1 =>
    bif decide (r1 < 0) then some (-1) else
    some r1) :=
  (RT_eq P tab (.fn s_laws_szCon) x).trans (by kernel_rfl)
theorem e_laws_szConS_L0 (x : (List Con) × Int × Int) : M.laws_szConS_L0 x = (bif decide (x.2.2 < (x.1.length : Int)) then ((ix x.1 x.2.2).bind fun e1 =>
      (laws_szCon (e1, x.2.1)).bind fun r2 =>
      bif decide (r2 < 0) then some (.inl (-1)) else
      laws_szConS_L0 (x.1, r2, (IntKind.i64.wrap (x.2.2 + 1)))) else
    some (.inr x.2.1)) :=
  (RT_eq P tab (.lp s_laws_szConS L_laws_szConS_L0) x).trans (by kernel_rfl)
theorem e_laws_szConS (x : (List Con) × Int) : M.laws_szConS x = (bif decide ((IntKind.i64.wrap (x.2 - (x.1.length : Int))) < 0) then some (-1) else
    (laws_szConS_L0 (x.1, (IntKind.i64.wrap (x.2 - (x.1.length : Int))), 0)).bind fun s1 =>
    Sum.elim (fun a2 =>
      some a2) (fun b3 =>
      some b3) s1) :=
  (RT_eq P tab (.fn s_laws_szConS) x).trans (by kernel_rfl)
theorem e_laws_szData (x : Data × Int) : M.laws_szData x = (bif decide ((IntKind.i64.wrap (x.2 - (x.1.Name.size : Int))) < 0) then some (-1) else
    (laws_szConS (x.1.Cons, (IntKind.i64.wrap (x.2 - (x.1.Name.size : Int))))).bind fun r1 =>
    bif decide (r1 < 0) then some (-1) else
    some r1) :=
  (RT_eq P tab (.fn s_laws_szData) x).trans (by kernel_rfl)
theorem e_laws_szDataS_L0 (x : (List Data) × Int × Int) : M.laws_szDataS_L0 x = (bif decide (x.2.2 < (x.1.length : Int)) then ((ix x.1 x.2.2).bind fun e1 =>
      (laws_szData (e1, x.2.1)).bind fun r2 =>
      bif decide (r2 < 0) then some (.inl (-1)) else
      laws_szDataS_L0 (x.1, r2, (IntKind.i64.wrap (x.2.2 + 1)))) else
    some (.inr x.2.1)) :=
  (RT_eq P tab (.lp s_laws_szDataS L_laws_szDataS_L0) x).trans (by kernel_rfl)
theorem e_laws_szDataS (x : (List Data) × Int) : M.laws_szDataS x = (bif decide ((IntKind.i64.wrap (x.2 - (x.1.length : Int))) < 0) then some (-1) else
    (laws_szDataS_L0 (x.1, (IntKind.i64.wrap (x.2 - (x.1.length : Int))), 0)).bind fun s1 =>
    Sum.elim (fun a2 =>
      some a2) (fun b3 =>
      some b3) s1) :=
  (RT_eq P tab (.fn s_laws_szDataS) x).trans (by kernel_rfl)
theorem e_laws_szStringS_L0 (x : (List ByteArray) × Int × Int) : M.laws_szStringS_L0 x = (bif decide (x.2.2 < (x.1.length : Int)) then ((ix x.1 x.2.2).bind fun e1 =>
      bif decide ((IntKind.i64.wrap (x.2.1 - (e1.size : Int))) < 0) then some (.inl (-1)) else
      laws_szStringS_L0 (x.1, (IntKind.i64.wrap (x.2.1 - (e1.size : Int))), (IntKind.i64.wrap (x.2.2 + 1)))) else
    some (.inr x.2.1)) :=
  (RT_eq P tab (.lp s_laws_szStringS L_laws_szStringS_L0) x).trans (by kernel_rfl)
theorem e_laws_szStringS (x : (List ByteArray) × Int) : M.laws_szStringS x = (bif decide ((IntKind.i64.wrap (x.2 - (x.1.length : Int))) < 0) then some (-1) else
    (laws_szStringS_L0 (x.1, (IntKind.i64.wrap (x.2 - (x.1.length : Int))), 0)).bind fun s1 =>
    Sum.elim (fun a2 =>
      some a2) (fun b3 =>
      some b3) s1) :=
  (RT_eq P tab (.fn s_laws_szStringS) x).trans (by kernel_rfl)
theorem e_laws_szExpS_L0 (x : (List Exp) × Int × Int) : M.laws_szExpS_L0 x = (bif decide (x.2.2 < (x.1.length : Int)) then ((ix x.1 x.2.2).bind fun e1 =>
      (laws_szExp (e1, x.2.1)).bind fun r2 =>
      bif decide (r2 < 0) then some (.inl (-1)) else
      laws_szExpS_L0 (x.1, r2, (IntKind.i64.wrap (x.2.2 + 1)))) else
    some (.inr x.2.1)) :=
  (RT_eq P tab (.lp s_laws_szExpS L_laws_szExpS_L0) x).trans (by kernel_rfl)
theorem e_laws_szExpS (x : (List Exp) × Int) : M.laws_szExpS x = (bif decide ((IntKind.i64.wrap (x.2 - (x.1.length : Int))) < 0) then some (-1) else
    (laws_szExpS_L0 (x.1, (IntKind.i64.wrap (x.2 - (x.1.length : Int))), 0)).bind fun s1 =>
    Sum.elim (fun a2 =>
      some a2) (fun b3 =>
      some b3) s1) :=
  (RT_eq P tab (.fn s_laws_szExpS) x).trans (by kernel_rfl)
theorem e_laws_szAlt (x : Alt × Int) : M.laws_szAlt x = (bif decide ((IntKind.i64.wrap (x.2 - (x.1.Great.size : Int))) < 0) then some (-1) else
    (laws_szStringS (x.1.Vars, (IntKind.i64.wrap (x.2 - (x.1.Great.size : Int))))).bind fun r1 =>
    bif decide (r1 < 0) then some (-1) else
    (laws_szExp (x.1.E, r1)).bind fun r2 =>
    bif decide (r2 < 0) then some (-1) else
    some r2) :=
  (RT_eq P tab (.fn s_laws_szAlt) x).trans (by kernel_rfl)
theorem e_laws_szAltS_L0 (x : (List Alt) × Int × Int) : M.laws_szAltS_L0 x = (bif decide (x.2.2 < (x.1.length : Int)) then ((ix x.1 x.2.2).bind fun e1 =>
      (laws_szAlt (e1, x.2.1)).bind fun r2 =>
      bif decide (r2 < 0) then some (.inl (-1)) else
      laws_szAltS_L0 (x.1, r2, (IntKind.i64.wrap (x.2.2 + 1)))) else
    some (.inr x.2.1)) :=
  (RT_eq P tab (.lp s_laws_szAltS L_laws_szAltS_L0) x).trans (by kernel_rfl)
theorem e_laws_szAltS (x : (List Alt) × Int) : M.laws_szAltS x = (bif decide ((IntKind.i64.wrap (x.2 - (x.1.length : Int))) < 0) then some (-1) else
    (laws_szAltS_L0 (x.1, (IntKind.i64.wrap (x.2 - (x.1.length : Int))), 0)).bind fun s1 =>
    Sum.elim (fun a2 =>
      some a2) (fun b3 =>
      some b3) s1) :=
  (RT_eq P tab (.fn s_laws_szAltS) x).trans (by kernel_rfl)
theorem e_laws_szExp (x : Exp × Int) : M.laws_szExp x = (bif decide ((IntKind.i64.wrap (x.2 - (x.1.S.size : Int))) < 0) then some (-1) else
    (laws_szExpS (x.1.L, (IntKind.i64.wrap (x.2 - (x.1.S.size : Int))))).bind fun r1 =>
    bif decide (r1 < 0) then some (-1) else
    (laws_szDecS (x.1.Decs, r1)).bind fun r2 =>
    bif decide (r2 < 0) then some (-1) else
    (laws_szAltS (x.1.Alts, r2)).bind fun r3 =>
    bif decide (r3 < 0) then some (-1) else
    some r3) :=
  (RT_eq P tab (.fn s_laws_szExp) x).trans (by kernel_rfl)
theorem e_laws_szDec (x : Dec × Int) : M.laws_szDec x = (bif decide ((IntKind.i64.wrap (x.2 - (x.1.Name.size : Int))) < 0) then some (-1) else
    (laws_szStringS (x.1.Pars, (IntKind.i64.wrap (x.2 - (x.1.Name.size : Int))))).bind fun r1 =>
    bif decide (r1 < 0) then some (-1) else
    (laws_szExp (x.1.E, r1)).bind fun r2 =>
    bif decide (r2 < 0) then some (-1) else
    (laws_szDecS (x.1.Where, r2)).bind fun r3 =>
    bif decide (r3 < 0) then some (-1) else
    some r3) :=
  (RT_eq P tab (.fn s_laws_szDec) x).trans (by kernel_rfl)
theorem e_laws_szDecS_L0 (x : (List Dec) × Int × Int) : M.laws_szDecS_L0 x = (bif decide (x.2.2 < (x.1.length : Int)) then ((ix x.1 x.2.2).bind fun e1 =>
      (laws_szDec (e1, x.2.1)).bind fun r2 =>
      bif decide (r2 < 0) then some (.inl (-1)) else
      laws_szDecS_L0 (x.1, r2, (IntKind.i64.wrap (x.2.2 + 1)))) else
    some (.inr x.2.1)) :=
  (RT_eq P tab (.lp s_laws_szDecS L_laws_szDecS_L0) x).trans (by kernel_rfl)
theorem e_laws_szDecS (x : (List Dec) × Int) : M.laws_szDecS x = (bif decide ((IntKind.i64.wrap (x.2 - (x.1.length : Int))) < 0) then some (-1) else
    (laws_szDecS_L0 (x.1, (IntKind.i64.wrap (x.2 - (x.1.length : Int))), 0)).bind fun s1 =>
    Sum.elim (fun a2 =>
      some a2) (fun b3 =>
      some b3) s1) :=
  (RT_eq P tab (.fn s_laws_szDecS) x).trans (by kernel_rfl)
theorem e_laws_szProg (x : Prog × Int) : M.laws_szProg x = ((laws_szDataS (x.1.Datas, x.2)).bind fun r1 =>
    bif decide (r1 < 0) then some (-1) else
    (laws_szDecS (x.1.Decs, r1)).bind fun r2 =>
    bif decide (r2 < 0) then some (-1) else
    some r2) :=
  (RT_eq P tab (.fn s_laws_szProg) x).trans (by kernel_rfl)
theorem e_laws_toTy (x : Ty) : M.laws_toTy x = ((laws_toTyS x.L).bind fun r1 =>
    some (Ty.mk x.K x.S x.N r1)) :=
  (RT_eq P tab (.fn s_laws_toTy) x).trans (by kernel_rfl)
theorem e_laws_toTyS_L0 (x : (List Ty) × Int × (List Ty)) : M.laws_toTyS_L0 x = (bif decide (x.2.1 < (x.1.length : Int)) then ((ix x.1 x.2.1).bind fun e1 =>
      (laws_toTy e1).bind fun r2 =>
      (gd (0 ≤ x.2.1)).bind fun _ =>
      (gd (x.2.1 < (x.2.2.length : Int))).bind fun _ =>
      laws_toTyS_L0 (x.1, (IntKind.i64.wrap (x.2.1 + 1)), (x.2.2.set x.2.1.toNat r2))) else
    some x.2.2) :=
  (RT_eq P tab (.lp s_laws_toTyS L_laws_toTyS_L0) x).trans (by kernel_rfl)
theorem e_laws_toTyS (x : List Ty) : M.laws_toTyS x = ((gd (0 ≤ (x.length : Int))).bind fun _ =>
    (gd ((x.length : Int) ≤ 1099511627776)).bind fun _ =>
    (laws_toTyS_L0 (x, 0, (List.replicate ((x.length : Int).toNat) (Ty.mk 0 (⟨⟨[]⟩⟩ : ByteArray) 0 [])))).bind fun s1 =>
    some s1) :=
  (RT_eq P tab (.fn s_laws_toTyS) x).trans (by kernel_rfl)
theorem e_laws_toCon (x : Con) : M.laws_toCon x = ((laws_toTyS x.Args).bind fun r1 =>
    some (Con.mk x.Name r1)) :=
  (RT_eq P tab (.fn s_laws_toCon) x).trans (by kernel_rfl)
theorem e_laws_toConS_L0 (x : (List Con) × Int × (List Con)) : M.laws_toConS_L0 x = (bif decide (x.2.1 < (x.1.length : Int)) then ((ix x.1 x.2.1).bind fun e1 =>
      (laws_toCon e1).bind fun r2 =>
      (gd (0 ≤ x.2.1)).bind fun _ =>
      (gd (x.2.1 < (x.2.2.length : Int))).bind fun _ =>
      laws_toConS_L0 (x.1, (IntKind.i64.wrap (x.2.1 + 1)), (x.2.2.set x.2.1.toNat r2))) else
    some x.2.2) :=
  (RT_eq P tab (.lp s_laws_toConS L_laws_toConS_L0) x).trans (by kernel_rfl)
theorem e_laws_toConS (x : List Con) : M.laws_toConS x = ((gd (0 ≤ (x.length : Int))).bind fun _ =>
    (gd ((x.length : Int) ≤ 1099511627776)).bind fun _ =>
    (laws_toConS_L0 (x, 0, (List.replicate ((x.length : Int).toNat) (Con.mk (⟨⟨[]⟩⟩ : ByteArray) [])))).bind fun s1 =>
    some s1) :=
  (RT_eq P tab (.fn s_laws_toConS) x).trans (by kernel_rfl)
theorem e_laws_toData (x : Data) : M.laws_toData x = ((laws_toConS x.Cons).bind fun r1 =>
    some (Data.mk x.Name r1)) :=
  (RT_eq P tab (.fn s_laws_toData) x).trans (by kernel_rfl)
theorem e_laws_toDataS_L0 (x : (List Data) × Int × (List Data)) : M.laws_toDataS_L0 x = (bif decide (x.2.1 < (x.1.length : Int)) then ((ix x.1 x.2.1).bind fun e1 =>
      (laws_toData e1).bind fun r2 =>
      (gd (0 ≤ x.2.1)).bind fun _ =>
      (gd (x.2.1 < (x.2.2.length : Int))).bind fun _ =>
      laws_toDataS_L0 (x.1, (IntKind.i64.wrap (x.2.1 + 1)), (x.2.2.set x.2.1.toNat r2))) else
    some x.2.2) :=
  (RT_eq P tab (.lp s_laws_toDataS L_laws_toDataS_L0) x).trans (by kernel_rfl)
theorem e_laws_toDataS (x : List Data) : M.laws_toDataS x = ((gd (0 ≤ (x.length : Int))).bind fun _ =>
    (gd ((x.length : Int) ≤ 1099511627776)).bind fun _ =>
    (laws_toDataS_L0 (x, 0, (List.replicate ((x.length : Int).toNat) (Data.mk (⟨⟨[]⟩⟩ : ByteArray) [])))).bind fun s1 =>
    some s1) :=
  (RT_eq P tab (.fn s_laws_toDataS) x).trans (by kernel_rfl)
theorem e_laws_toStringS_L0 (x : (List ByteArray) × Int × (List ByteArray)) : M.laws_toStringS_L0 x = (bif decide (x.2.1 < (x.1.length : Int)) then ((ix x.1 x.2.1).bind fun e1 =>
      (gd (0 ≤ x.2.1)).bind fun _ =>
      (gd (x.2.1 < (x.2.2.length : Int))).bind fun _ =>
      laws_toStringS_L0 (x.1, (IntKind.i64.wrap (x.2.1 + 1)), (x.2.2.set x.2.1.toNat e1))) else
    some x.2.2) :=
  (RT_eq P tab (.lp s_laws_toStringS L_laws_toStringS_L0) x).trans (by kernel_rfl)
theorem e_laws_toStringS (x : List ByteArray) : M.laws_toStringS x = ((gd (0 ≤ (x.length : Int))).bind fun _ =>
    (gd ((x.length : Int) ≤ 1099511627776)).bind fun _ =>
    (laws_toStringS_L0 (x, 0, (List.replicate ((x.length : Int).toNat) (⟨⟨[]⟩⟩ : ByteArray)))).bind fun s1 =>
    some s1) :=
  (RT_eq P tab (.fn s_laws_toStringS) x).trans (by kernel_rfl)
theorem e_laws_toExpS_L0 (x : (List Exp) × Int × (List Exp)) : M.laws_toExpS_L0 x = (bif decide (x.2.1 < (x.1.length : Int)) then ((ix x.1 x.2.1).bind fun e1 =>
      (laws_toExp e1).bind fun r2 =>
      (gd (0 ≤ x.2.1)).bind fun _ =>
      (gd (x.2.1 < (x.2.2.length : Int))).bind fun _ =>
      laws_toExpS_L0 (x.1, (IntKind.i64.wrap (x.2.1 + 1)), (x.2.2.set x.2.1.toNat r2))) else
    some x.2.2) :=
  (RT_eq P tab (.lp s_laws_toExpS L_laws_toExpS_L0) x).trans (by kernel_rfl)
theorem e_laws_toExpS (x : List Exp) : M.laws_toExpS x = ((gd (0 ≤ (x.length : Int))).bind fun _ =>
    (gd ((x.length : Int) ≤ 1099511627776)).bind fun _ =>
    (laws_toExpS_L0 (x, 0, (List.replicate ((x.length : Int).toNat) (Exp.mk 0 (⟨⟨[]⟩⟩ : ByteArray) 0 [] [] [])))).bind fun s1 =>
    some s1) :=
  (RT_eq P tab (.fn s_laws_toExpS) x).trans (by kernel_rfl)
theorem e_laws_toAlt (x : Alt) : M.laws_toAlt x = ((laws_toStringS x.Vars).bind fun r1 =>
    (laws_toExp x.E).bind fun r2 =>
    some (Alt.mk x.Great r1 (Exp.mk r2.K r2.S r2.N r2.L r2.Decs r2.Alts))) :=
  (RT_eq P tab (.fn s_laws_toAlt) x).trans (by kernel_rfl)
theorem e_laws_toAltS_L0 (x : (List Alt) × Int × (List Alt)) : M.laws_toAltS_L0 x = (bif decide (x.2.1 < (x.1.length : Int)) then ((ix x.1 x.2.1).bind fun e1 =>
      (laws_toAlt e1).bind fun r2 =>
      (gd (0 ≤ x.2.1)).bind fun _ =>
      (gd (x.2.1 < (x.2.2.length : Int))).bind fun _ =>
      laws_toAltS_L0 (x.1, (IntKind.i64.wrap (x.2.1 + 1)), (x.2.2.set x.2.1.toNat r2))) else
    some x.2.2) :=
  (RT_eq P tab (.lp s_laws_toAltS L_laws_toAltS_L0) x).trans (by kernel_rfl)
theorem e_laws_toAltS (x : List Alt) : M.laws_toAltS x = ((gd (0 ≤ (x.length : Int))).bind fun _ =>
    (gd ((x.length : Int) ≤ 1099511627776)).bind fun _ =>
    (laws_toAltS_L0 (x, 0, (List.replicate ((x.length : Int).toNat) (Alt.mk (⟨⟨[]⟩⟩ : ByteArray) [] (Exp.mk 0 (⟨⟨[]⟩⟩ : ByteArray) 0 [] [] []))))).bind fun s1 =>
    some s1) :=
  (RT_eq P tab (.fn s_laws_toAltS) x).trans (by kernel_rfl)
theorem e_laws_toExp (x : Exp) : M.laws_toExp x = ((laws_toExpS x.L).bind fun r1 =>
    (laws_toDecS x.Decs).bind fun r2 =>
    (laws_toAltS x.Alts).bind fun r3 =>
    some (Exp.mk x.K x.S x.N r1 r2 r3)) :=
  (RT_eq P tab (.fn s_laws_toExp) x).trans (by kernel_rfl)
theorem e_laws_toDec (x : Dec) : M.laws_toDec x = ((laws_toStringS x.Pars).bind fun r1 =>
    (laws_toExp x.E).bind fun r2 =>
    (laws_toDecS x.Where).bind fun r3 =>
    some (Dec.mk x.Name r1 (Exp.mk r2.K r2.S r2.N r2.L r2.Decs r2.Alts) r3)) :=
  (RT_eq P tab (.fn s_laws_toDec) x).trans (by kernel_rfl)
theorem e_laws_toDecS_L0 (x : (List Dec) × Int × (List Dec)) : M.laws_toDecS_L0 x = (bif decide (x.2.1 < (x.1.length : Int)) then ((ix x.1 x.2.1).bind fun e1 =>
      (laws_toDec e1).bind fun r2 =>
      (gd (0 ≤ x.2.1)).bind fun _ =>
      (gd (x.2.1 < (x.2.2.length : Int))).bind fun _ =>
      laws_toDecS_L0 (x.1, (IntKind.i64.wrap (x.2.1 + 1)), (x.2.2.set x.2.1.toNat r2))) else
    some x.2.2) :=
  (RT_eq P tab (.lp s_laws_toDecS L_laws_toDecS_L0) x).trans (by kernel_rfl)
theorem e_laws_toDecS (x : List Dec) : M.laws_toDecS x = ((gd (0 ≤ (x.length : Int))).bind fun _ =>
    (gd ((x.length : Int) ≤ 1099511627776)).bind fun _ =>
    (laws_toDecS_L0 (x, 0, (List.replicate ((x.length : Int).toNat) (Dec.mk (⟨⟨[]⟩⟩ : ByteArray) [] (Exp.mk 0 (⟨⟨[]⟩⟩ : ByteArray) 0 [] [] []) [])))).bind fun s1 =>
    some s1) :=
  (RT_eq P tab (.fn s_laws_toDecS) x).trans (by kernel_rfl)
theorem e_laws_toProg (x : Prog) : M.laws_toProg x = ((laws_toDataS x.Datas).bind fun r1 =>
    (laws_toDecS x.Decs).bind fun r2 =>
    some (Prog.mk r1 r2)) :=
  (RT_eq P tab (.fn s_laws_toProg) x).trans (by kernel_rfl)
theorem e_spec_l1Has_L0 (x : (List ByteArray) × ByteArray × Int) : M.spec_l1Has_L0 x = (bif decide (x.2.2 < (x.1.length : Int)) then ((ix x.1 x.2.2).bind fun e1 =>
      bif decide (e1 = x.2.1) then some (.inl true) else
      spec_l1Has_L0 (x.1, x.2.1, (IntKind.i64.wrap (x.2.2 + 1)))) else
    some (.inr ())) :=
  (RT_eq P tab (.lp s_spec_l1Has L_spec_l1Has_L0) x).trans (by kernel_rfl)
theorem e_spec_l1Has (x : (List ByteArray) × ByteArray) : M.spec_l1Has x = ((spec_l1Has_L0 (x.1, x.2, 0)).bind fun s1 =>
    Sum.elim (fun a2 =>
      some a2) (fun b3 =>
      some false) s1) :=
  (RT_eq P tab (.fn s_spec_l1Has) x).trans (by kernel_rfl)
theorem e_spec_l6Put_L0 (x : ByteArray × Int × (List ByteArray)) : M.spec_l6Put_L0 x = (bif decide (0 < x.2.1) then ((gd (0 ≤ (IntKind.i64.wrap (x.2.1 - 1)))).bind fun _ =>
      (gd ((IntKind.i64.wrap (x.2.1 - 1)) < (x.2.2.length : Int))).bind fun _ =>
      (x.2.2[(IntKind.i64.wrap (x.2.1 - 1)).toNat]?).bind fun e1 =>
      bif (!(Op.bytesLess e1.toList x.1.toList || decide (e1 = x.1))) then ((gd (0 ≤ (IntKind.i64.wrap (x.2.1 - 1)))).bind fun _ =>
        (gd ((IntKind.i64.wrap (x.2.1 - 1)) < (x.2.2.length : Int))).bind fun _ =>
        (x.2.2[(IntKind.i64.wrap (x.2.1 - 1)).toNat]?).bind fun e2 =>
        (gd (0 ≤ x.2.1)).bind fun _ =>
        (gd (x.2.1 < (x.2.2.length : Int))).bind fun _ =>
        spec_l6Put_L0 (x.1, (IntKind.i64.wrap (x.2.1 - 1)), (x.2.2.set x.2.1.toNat e2))) else
      some (x.2.1, x.2.2)) else
    some (x.2.1, x.2.2)) :=
  (RT_eq P tab (.lp s_spec_l6Put L_spec_l6Put_L0) x).trans (by kernel_rfl)
theorem e_spec_l6Put (x : (List ByteArray) × ByteArray) : M.spec_l6Put x = (((spec_l1Has (x.1, x.2)).bind fun r1 =>
      bif r1 then some true else
      some (decide (x.2 = (⟨⟨[95]⟩⟩ : ByteArray)))).bind fun s2 =>
    bif s2 then ((gd (x.1.length ≤ grow)).bind fun _ =>
      some x.1) else
    (gd (x.1.length ≤ grow)).bind fun _ =>
    (gd (x.1.length + [x.2].length ≤ grow)).bind fun _ =>
    (spec_l6Put_L0 (x.2, (IntKind.i64.wrap (((x.1 ++ [x.2]).length : Int) - 1)), (x.1 ++ [x.2]))).bind fun s3 =>
    (gd (0 ≤ s3.1)).bind fun _ =>
    (gd (s3.1 < (s3.2.length : Int))).bind fun _ =>
    some (s3.2.set s3.1.toNat x.2)) :=
  (RT_eq P tab (.fn s_spec_l6Put) x).trans (by kernel_rfl)
theorem e_spec_l6Join_L0 (x : (List ByteArray) × Int × (List ByteArray)) : M.spec_l6Join_L0 x = (bif decide (x.2.1 < (x.1.length : Int)) then ((ix x.1 x.2.1).bind fun e1 =>
      (spec_l6Put (x.2.2, e1)).bind fun r2 =>
      spec_l6Join_L0 (x.1, (IntKind.i64.wrap (x.2.1 + 1)), r2)) else
    some x.2.2) :=
  (RT_eq P tab (.lp s_spec_l6Join L_spec_l6Join_L0) x).trans (by kernel_rfl)
theorem e_spec_l6Join (x : (List ByteArray) × (List ByteArray)) : M.spec_l6Join x = ((gd (x.1.length ≤ grow)).bind fun _ =>
    (spec_l6Join_L0 (x.2, 0, x.1)).bind fun s1 =>
    some s1) :=
  (RT_eq P tab (.fn s_spec_l6Join) x).trans (by kernel_rfl)
theorem e_spec_BoundOf_L0 (x : Int × Exp × (List ByteArray)) : M.spec_BoundOf_L0 x = (bif decide (x.1 < (x.2.1.L.length : Int)) then ((ix x.2.1.L x.1).bind fun e1 =>
      (spec_BoundOf e1).bind fun r2 =>
      (spec_l6Join (x.2.2, r2)).bind fun r3 =>
      spec_BoundOf_L0 ((IntKind.i64.wrap (x.1 + 1)), x.2.1, r3)) else
    some (x.2.1, x.2.2)) :=
  (RT_eq P tab (.lp s_spec_BoundOf L_spec_BoundOf_L0) x).trans (by kernel_rfl)
theorem e_spec_BoundOf_L1 (x : Int × Exp × (List ByteArray)) : M.spec_BoundOf_L1 x = (bif decide (x.1 < (x.2.1.Alts.length : Int)) then ((ix x.2.1.Alts x.1).bind fun e1 =>
      (ix x.2.1.Alts x.1).bind fun e2 =>
      (spec_l6Join (x.2.2, e1.Vars)).bind fun r3 =>
      (spec_BoundOf e2.E).bind fun r4 =>
      (spec_l6Join (r3, r4)).bind fun r5 =>
      spec_BoundOf_L1 ((IntKind.i64.wrap (x.1 + 1)), x.2.1, r5)) else
    some (x.2.1, x.2.2)) :=
  (RT_eq P tab (.lp s_spec_BoundOf L_spec_BoundOf_L1) x).trans (by kernel_rfl)
theorem e_spec_BoundOf (x : Exp) : M.spec_BoundOf x = ((bif decide (x.K = 5) then ((spec_l6Put ([], x.S)).bind fun r1 =>
        some (x, r1)) else
      some (x, [])).bind fun s2 =>
    (spec_BoundOf_L0 (0, s2.1, s2.2)).bind fun s3 =>
    (spec_BoundOf_L1 (0, s3.1, s3.2)).bind fun s4 =>
    (spec_l6BoundOfDecs s4.1.Decs).bind fun r5 =>
    (spec_l6Join (s4.2, r5)).bind fun r6 =>
    some r6) :=
  (RT_eq P tab (.fn s_spec_BoundOf) x).trans (by kernel_rfl)
theorem e_spec_l6BoundOfDecs_L0 (x : (List Dec) × Int × (List ByteArray)) : M.spec_l6BoundOfDecs_L0 x = (bif decide (x.2.1 < (x.1.length : Int)) then ((ix x.1 x.2.1).bind fun e1 =>
      (ix x.1 x.2.1).bind fun e2 =>
      (spec_l6Put (x.2.2, e1.Name)).bind fun r3 =>
      (spec_l6Join (r3, e2.Pars)).bind fun r4 =>
      (ix x.1 x.2.1).bind fun e5 =>
      (spec_BoundOf e5.E).bind fun r6 =>
      (spec_l6Join (r4, r6)).bind fun r7 =>
      (ix x.1 x.2.1).bind fun e8 =>
      (spec_l6BoundOfDecs e8.Where).bind fun r9 =>
      (spec_l6Join (r7, r9)).bind fun r10 =>
      spec_l6BoundOfDecs_L0 (x.1, (IntKind.i64.wrap (x.2.1 + 1)), r10)) else
    some x.2.2) :=
  (RT_eq P tab (.lp s_spec_l6BoundOfDecs L_spec_l6BoundOfDecs_L0) x).trans (by kernel_rfl)
theorem e_spec_l6BoundOfDecs (x : List Dec) : M.spec_l6BoundOfDecs x = ((spec_l6BoundOfDecs_L0 (x, 0, [])).bind fun s1 =>
    some s1) :=
  (RT_eq P tab (.fn s_spec_l6BoundOfDecs) x).trans (by kernel_rfl)
theorem e_spec_l6UsedDecs_L0 (x : (List Dec) × Int × (List ByteArray)) : M.spec_l6UsedDecs_L0 x = (bif decide (x.2.1 < (x.1.length : Int)) then ((ix x.1 x.2.1).bind fun e1 =>
      (ix x.1 x.2.1).bind fun e2 =>
      (spec_l6Used e1.E).bind fun r3 =>
      (spec_l6Join (x.2.2, r3)).bind fun r4 =>
      (spec_l6UsedDecs e2.Where).bind fun r5 =>
      (spec_l6Join (r4, r5)).bind fun r6 =>
      spec_l6UsedDecs_L0 (x.1, (IntKind.i64.wrap (x.2.1 + 1)), r6)) else
    some x.2.2) :=
  (RT_eq P tab (.lp s_spec_l6UsedDecs L_spec_l6UsedDecs_L0) x).trans (by kernel_rfl)
theorem e_spec_l6UsedDecs (x : List Dec) : M.spec_l6UsedDecs x = ((spec_l6UsedDecs_L0 (x, 0, [])).bind fun s1 =>
    some s1) :=
  (RT_eq P tab (.fn s_spec_l6UsedDecs) x).trans (by kernel_rfl)
theorem e_spec_l6Used_L0 (x : Int × Exp × (List ByteArray)) : M.spec_l6Used_L0 x = (bif decide (x.1 < (x.2.1.L.length : Int)) then ((ix x.2.1.L x.1).bind fun e1 =>
      (spec_l6Used e1).bind fun r2 =>
      (spec_l6Join (x.2.2, r2)).bind fun r3 =>
      spec_l6Used_L0 ((IntKind.i64.wrap (x.1 + 1)), x.2.1, r3)) else
    some (x.2.1, x.2.2)) :=
  (RT_eq P tab (.lp s_spec_l6Used L_spec_l6Used_L0) x).trans (by kernel_rfl)
theorem e_spec_l6Used_L1 (x : Int × Exp × (List ByteArray)) : M.spec_l6Used_L1 x = (bif decide (x.1 < (x.2.1.Alts.length : Int)) then ((ix x.2.1.Alts x.1).bind fun e1 =>
      (spec_l6Used e1.E).bind fun r2 =>
      (spec_l6Join (x.2.2, r2)).bind fun r3 =>
      spec_l6Used_L1 ((IntKind.i64.wrap (x.1 + 1)), x.2.1, r3)) else
    some (x.2.1, x.2.2)) :=
  (RT_eq P tab (.lp s_spec_l6Used L_spec_l6Used_L1) x).trans (by kernel_rfl)
theorem e_spec_l6Used (x : Exp) : M.spec_l6Used x = ((bif decide (x.K = 1) then ((spec_l6Put ([], x.S)).bind fun r1 =>
        some (x, r1)) else
      some (x, [])).bind fun s2 =>
    (spec_l6Used_L0 (0, s2.1, s2.2)).bind fun s3 =>
    (spec_l6Used_L1 (0, s3.1, s3.2)).bind fun s4 =>
    (spec_l6UsedDecs s4.1.Decs).bind fun r5 =>
    (spec_l6Join (s4.2, r5)).bind fun r6 =>
    some r6) :=
  (RT_eq P tab (.fn s_spec_l6Used) x).trans (by kernel_rfl)
theorem e_spec_NamesOf_L0 (x : Int × Prog × (List ByteArray)) : M.spec_NamesOf_L0 x = (bif decide (x.1 < (x.2.1.Decs.length : Int)) then ((ix x.2.1.Decs x.1).bind fun e1 =>
      (spec_l6Used e1.E).bind fun r2 =>
      (spec_l6Join (x.2.2, r2)).bind fun r3 =>
      (ix x.2.1.Decs x.1).bind fun e4 =>
      (spec_l6UsedDecs e4.Where).bind fun r5 =>
      (spec_l6Join (r3, r5)).bind fun r6 =>
      spec_NamesOf_L0 ((IntKind.i64.wrap (x.1 + 1)), x.2.1, r6)) else
    some x.2.2) :=
  (RT_eq P tab (.lp s_spec_NamesOf L_spec_NamesOf_L0) x).trans (by kernel_rfl)
theorem e_spec_NamesOf (x : Prog) : M.spec_NamesOf x = ((spec_l6BoundOfDecs x.Decs).bind fun r1 =>
    (spec_NamesOf_L0 (0, x, r1)).bind fun s2 =>
    some s2) :=
  (RT_eq P tab (.fn s_spec_NamesOf) x).trans (by kernel_rfl)
theorem e_impl_boundExp_L0 (x : (List Exp) × Int × Int × (List ByteArray) × Exp) : M.impl_boundExp_L0 x = (bif decide (x.2.2.1 < x.2.1) then ((ix x.1 x.2.2.1).bind fun e1 =>
      (impl_boundExp (e1, x.2.2.2.1)).bind fun r2 =>
      impl_boundExp_L0 (x.1, x.2.1, (IntKind.i64.wrap (x.2.2.1 + 1)), r2, x.2.2.2.2)) else
    some (x.2.2.2.1, x.2.2.2.2)) :=
  (RT_eq P tab (.lp s_impl_boundExp L_impl_boundExp_L0) x).trans (by kernel_rfl)
theorem e_impl_boundExp_L1 (x : (List Dec) × Int × Int × (List ByteArray) × Exp) : M.impl_boundExp_L1 x = (bif decide (x.2.2.1 < x.2.1) then ((ix x.1 x.2.2.1).bind fun e1 =>
      (gd (x.2.2.2.1.length + [e1.Name].length ≤ grow)).bind fun _ =>
      (impl_boundDec (e1, (x.2.2.2.1 ++ [e1.Name]))).bind fun r2 =>
      impl_boundExp_L1 (x.1, x.2.1, (IntKind.i64.wrap (x.2.2.1 + 1)), r2, x.2.2.2.2)) else
    some (x.2.2.2.1, x.2.2.2.2)) :=
  (RT_eq P tab (.lp s_impl_boundExp L_impl_boundExp_L1) x).trans (by kernel_rfl)
theorem e_impl_boundExp_L2 (x : (List Alt) × Int × Int × (List ByteArray)) : M.impl_boundExp_L2 x = (bif decide (x.2.2.1 < x.2.1) then ((ix x.1 x.2.2.1).bind fun e1 =>
      (gd (x.2.2.2.length + e1.Vars.length ≤ grow)).bind fun _ =>
      (impl_boundExp (e1.E, (x.2.2.2 ++ e1.Vars))).bind fun r2 =>
      impl_boundExp_L2 (x.1, x.2.1, (IntKind.i64.wrap (x.2.2.1 + 1)), r2)) else
    some x.2.2.2) :=
  (RT_eq P tab (.lp s_impl_boundExp L_impl_boundExp_L2) x).trans (by kernel_rfl)
theorem e_impl_boundExp (x : Exp × (List ByteArray)) : M.impl_boundExp x = ((bif decide (x.1.K = 5) then ((gd (x.2.length + [x.1.S].length ≤ grow)).bind fun _ =>
        some ((x.2 ++ [x.1.S]), x.1)) else
      some (x.2, x.1)).bind fun s1 =>
    (impl_boundExp_L0 (s1.2.L, (s1.2.L.length : Int), 0, s1.1, s1.2)).bind fun s2 =>
    (impl_boundExp_L1 (s2.2.Decs, (s2.2.Decs.length : Int), 0, s2.1, s2.2)).bind fun s3 =>
    (impl_boundExp_L2 (s3.2.Alts, (s3.2.Alts.length : Int), 0, s3.1)).bind fun s4 =>
    some s4) :=
  (RT_eq P tab (.fn s_impl_boundExp) x).trans (by kernel_rfl)
theorem e_impl_boundDec_L0 (x : (List Dec) × Int × Int × (List ByteArray)) : M.impl_boundDec_L0 x = (bif decide (x.2.2.1 < x.2.1) then ((ix x.1 x.2.2.1).bind fun e1 =>
      (gd (x.2.2.2.length + [e1.Name].length ≤ grow)).bind fun _ =>
      (impl_boundDec (e1, (x.2.2.2 ++ [e1.Name]))).bind fun r2 =>
      impl_boundDec_L0 (x.1, x.2.1, (IntKind.i64.wrap (x.2.2.1 + 1)), r2)) else
    some x.2.2.2) :=
  (RT_eq P tab (.lp s_impl_boundDec L_impl_boundDec_L0) x).trans (by kernel_rfl)
theorem e_impl_boundDec (x : Dec × (List ByteArray)) : M.impl_boundDec x = ((gd (x.2.length + x.1.Pars.length ≤ grow)).bind fun _ =>
    (impl_boundExp (x.1.E, (x.2 ++ x.1.Pars))).bind fun r1 =>
    (impl_boundDec_L0 (x.1.Where, (x.1.Where.length : Int), 0, r1)).bind fun s2 =>
    some s2) :=
  (RT_eq P tab (.fn s_impl_boundDec) x).trans (by kernel_rfl)
theorem e_slices_Clone_string (x : List ByteArray) : M.slices_Clone_string x = (bif x.isEmpty then (X.meet (some []) ((gd (x.length ≤ grow)).bind fun _ =>
        some x)) else
    (gd (x.length ≤ grow)).bind fun _ =>
    some x) :=
  (RT_eq P tab (.fn s_slices_Clone_string) x).trans (by kernel_rfl)
theorem e_impl_varsExp_1 (x : Exp × (List ByteArray)) : M.impl_varsExp_1 x = ((impl_varsExp (x.1, x.2)).bind fun r1 =>
    some (x.1, r1)) :=
  (RT_eq P tab (.fn s_impl_varsExp_1) x).trans (by kernel_rfl)
theorem e_impl_mappedDecs_at_varsExp_1_L0 (x : (List Dec) × Int × Int × (List ByteArray) × (List Dec)) : M.impl_mappedDecs_at_varsExp_1_L0 x = (bif decide (x.2.2.1 < x.2.1) then ((ix x.1 x.2.2.1).bind fun e1 =>
      (slices_Clone_string e1.Pars).bind fun r2 =>
      (impl_varsExp_1 (e1.E, x.2.2.2.1)).bind fun r3 =>
      (impl_mappedDecs_at_varsExp_1 (e1.Where, r3.2)).bind fun r4 =>
      (gd (x.2.2.2.2.length + [(Dec.mk e1.Name r2 (Exp.mk r3.1.K r3.1.S r3.1.N r3.1.L r3.1.Decs r3.1.Alts) r4.1)].length ≤ grow)).bind fun _ =>
      impl_mappedDecs_at_varsExp_1_L0 (x.1, x.2.1, (IntKind.i64.wrap (x.2.2.1 + 1)), r4.2, (x.2.2.2.2 ++ [(Dec.mk e1.Name r2 (Exp.mk r3.1.K r3.1.S r3.1.N r3.1.L r3.1.Decs r3.1.Alts) r4.1)]))) else
    some (x.2.2.2.1, x.2.2.2.2)) :=
  (RT_eq P tab (.lp s_impl_mappedDecs_at_varsExp_1 L_impl_mappedDecs_at_varsExp_1_L0) x).trans (by kernel_rfl)
theorem e_impl_mappedDecs_at_varsExp_1 (x : (List Dec) × (List ByteArray)) : M.impl_mappedDecs_at_varsExp_1 x = ((impl_mappedDecs_at_varsExp_1_L0 (x.1, (x.1.length : Int), 0, x.2, [])).bind fun s1 =>
    some (s1.2, s1.1)) :=
  (RT_eq P tab (.fn s_impl_mappedDecs_at_varsExp_1) x).trans (by kernel_rfl)
theorem e_impl_mapped_at_varsExp_1_L0 (x : (List Exp) × Int × Int × (List ByteArray) × Exp × Exp × Int × ByteArray × Int × (List Dec) × (List Exp) × (List Alt)) : M.impl_mapped_at_varsExp_1_L0 x = (bif decide (x.2.2.1 < x.2.1) then ((ix x.1 x.2.2.1).bind fun e1 =>
      (impl_varsExp_1 (e1, x.2.2.2.1)).bind fun r2 =>
      (gd (x.2.2.2.2.2.2.2.2.2.2.1.length + [r2.1].length ≤ grow)).bind fun _ =>
      impl_mapped_at_varsExp_1_L0 (x.1, x.2.1, (IntKind.i64.wrap (x.2.2.1 + 1)), r2.2, x.2.2.2.2.1, x.2.2.2.2.2.1, x.2.2.2.2.2.2.1, x.2.2.2.2.2.2.2.1, x.2.2.2.2.2.2.2.2.1, x.2.2.2.2.2.2.2.2.2.1, (x.2.2.2.2.2.2.2.2.2.2.1 ++ [r2.1]), x.2.2.2.2.2.2.2.2.2.2.2)) else
    some (x.2.2.2.1, x.2.2.2.2.1, x.2.2.2.2.2.1, x.2.2.2.2.2.2.1, x.2.2.2.2.2.2.2.1, x.2.2.2.2.2.2.2.2.1, x.2.2.2.2.2.2.2.2.2.1, x.2.2.2.2.2.2.2.2.2.2.1, x.2.2.2.2.2.2.2.2.2.2.2)) :=
  (RT_eq P tab (.lp s_impl_mapped_at_varsExp_1 L_impl_mapped_at_varsExp_1_L0) x).trans (by kernel_rfl)
theorem e_impl_mapped_at_varsExp_1_L1 (x : (List Alt) × Int × Int × (List ByteArray) × Exp × Int × ByteArray × Int × (List Dec) × (List Exp) × (List Alt)) : M.impl_mapped_at_varsExp_1_L1 x = (bif decide (x.2.2.1 < x.2.1) then ((ix x.1 x.2.2.1).bind fun e1 =>
      (slices_Clone_string e1.Vars).bind fun r2 =>
      (impl_varsExp_1 (e1.E, x.2.2.2.1)).bind fun r3 =>
      (gd (x.2.2.2.2.2.2.2.2.2.2.length + [(Alt.mk e1.Great r2 (Exp.mk r3.1.K r3.1.S r3.1.N r3.1.L r3.1.Decs r3.1.Alts))].length ≤ grow)).bind fun _ =>
      impl_mapped_at_varsExp_1_L1 (x.1, x.2.1, (IntKind.i64.wrap (x.2.2.1 + 1)), r3.2, x.2.2.2.2.1, x.2.2.2.2.2.1, x.2.2.2.2.2.2.1, x.2.2.2.2.2.2.2.1, x.2.2.2.2.2.2.2.2.1, x.2.2.2.2.2.2.2.2.2.1, (x.2.2.2.2.2.2.2.2.2.2 ++ [(Alt.mk e1.Great r2 (Exp.mk r3.1.K r3.1.S r3.1.N r3.1.L r3.1.Decs r3.1.Alts))]))) else
    some (x.2.2.2.1, x.2.2.2.2.1, x.2.2.2.2.2.1, x.2.2.2.2.2.2.1, x.2.2.2.2.2.2.2.1, x.2.2.2.2.2.2.2.2.1, x.2.2.2.2.2.2.2.2.2.1, x.2.2.2.2.2.2.2.2.2.2)) :=
  (RT_eq P tab (.lp s_impl_mapped_at_varsExp_1 L_impl_mapped_at_varsExp_1_L1) x).trans (by kernel_rfl)
theorem e_impl_mapped_at_varsExp_1 (x : Exp × (List ByteArray)) : M.impl_mapped_at_varsExp_1 x = ((impl_mapped_at_varsExp_1_L0 (x.1.L, (x.1.L.length : Int), 0, x.2, x.1, (Exp.mk 0 (⟨⟨[]⟩⟩ : ByteArray) 0 [] [] []), x.1.K, x.1.S, x.1.N, [], [], [])).bind fun s1 =>
    (impl_mappedDecs_at_varsExp_1 (s1.2.1.Decs, s1.1)).bind fun r2 =>
    (impl_mapped_at_varsExp_1_L1 (s1.2.1.Alts, (s1.2.1.Alts.length : Int), 0, r2.2, s1.2.2.1, s1.2.2.2.1, s1.2.2.2.2.1, s1.2.2.2.2.2.1, r2.1, s1.2.2.2.2.2.2.2.1, s1.2.2.2.2.2.2.2.2)).bind fun s3 =>
    some ((Exp.mk s3.2.2.1 s3.2.2.2.1 s3.2.2.2.2.1 s3.2.2.2.2.2.2.1 s3.2.2.2.2.2.1 s3.2.2.2.2.2.2.2), s3.1)) :=
  (RT_eq P tab (.fn s_impl_mapped_at_varsExp_1) x).trans (by kernel_rfl)
theorem e_impl_varsExp (x : Exp × (List ByteArray)) : M.impl_varsExp x = ((bif decide (x.1.K = 1) then ((gd (x.2.length + [x.1.S].length ≤ grow)).bind fun _ =>
        some ((x.2 ++ [x.1.S]), x.1)) else
      some (x.2, x.1)).bind fun s1 =>
    (impl_mapped_at_varsExp_1 (s1.2, s1.1)).bind fun r2 =>
    some r2.2) :=
  (RT_eq P tab (.fn s_impl_varsExp) x).trans (by kernel_rfl)
theorem e_impl_namesOfDecs_1 (x : Exp × (List ByteArray)) : M.impl_namesOfDecs_1 x = ((impl_varsExp (x.1, x.2)).bind fun r1 =>
    some (x.1, r1)) :=
  (RT_eq P tab (.fn s_impl_namesOfDecs_1) x).trans (by kernel_rfl)
theorem e_impl_mappedDecs_at_namesOfDecs_1_L0 (x : (List Dec) × Int × Int × (List ByteArray) × (List Dec)) : M.impl_mappedDecs_at_namesOfDecs_1_L0 x = (bif decide (x.2.2.1 < x.2.1) then ((ix x.1 x.2.2.1).bind fun e1 =>
      (slices_Clone_string e1.Pars).bind fun r2 =>
      (impl_namesOfDecs_1 (e1.E, x.2.2.2.1)).bind fun r3 =>
      (impl_mappedDecs_at_namesOfDecs_1 (e1.Where, r3.2)).bind fun r4 =>
      (gd (x.2.2.2.2.length + [(Dec.mk e1.Name r2 (Exp.mk r3.1.K r3.1.S r3.1.N r3.1.L r3.1.Decs r3.1.Alts) r4.1)].length ≤ grow)).bind fun _ =>
      impl_mappedDecs_at_namesOfDecs_1_L0 (x.1, x.2.1, (IntKind.i64.wrap (x.2.2.1 + 1)), r4.2, (x.2.2.2.2 ++ [(Dec.mk e1.Name r2 (Exp.mk r3.1.K r3.1.S r3.1.N r3.1.L r3.1.Decs r3.1.Alts) r4.1)]))) else
    some (x.2.2.2.1, x.2.2.2.2)) :=
  (RT_eq P tab (.lp s_impl_mappedDecs_at_namesOfDecs_1 L_impl_mappedDecs_at_namesOfDecs_1_L0) x).trans (by kernel_rfl)
theorem e_impl_mappedDecs_at_namesOfDecs_1 (x : (List Dec) × (List ByteArray)) : M.impl_mappedDecs_at_namesOfDecs_1 x = ((impl_mappedDecs_at_namesOfDecs_1_L0 (x.1, (x.1.length : Int), 0, x.2, [])).bind fun s1 =>
    some (s1.2, s1.1)) :=
  (RT_eq P tab (.fn s_impl_mappedDecs_at_namesOfDecs_1) x).trans (by kernel_rfl)
theorem e_impl_sorted (x : List ByteArray) : M.impl_sorted x = (fun x => some (sortedB x)) x :=
  (RT_eq P tab (.fn s_impl_sorted) x).trans (X.ext_eq ((fun x => some (sortedB x)) x))
theorem e_impl_named_1 (x : ByteArray) : M.impl_named_1 x = (some (decide (x = (⟨⟨[95]⟩⟩ : ByteArray)))) :=
  (RT_eq P tab (.fn s_impl_named_1) x).trans (by kernel_rfl)
theorem e_slices_IndexFunc_string_at_named_1_L0 (x : Int × Int × (List ByteArray)) : M.slices_IndexFunc_string_at_named_1_L0 x = (bif decide (x.2.1 < x.1) then ((gd (0 ≤ x.2.1)).bind fun _ =>
      (gd (x.2.1 < (x.2.2.length : Int))).bind fun _ =>
      (x.2.2[x.2.1.toNat]?).bind fun e1 =>
      (impl_named_1 e1).bind fun r2 =>
      bif r2 then some (.inl x.2.1) else
      slices_IndexFunc_string_at_named_1_L0 (x.1, (IntKind.i64.wrap (x.2.1 + 1)), x.2.2)) else
    some (.inr ())) :=
  (RT_eq P tab (.lp s_slices_IndexFunc_string_at_named_1 L_slices_IndexFunc_string_at_named_1_L0) x).trans (by kernel_rfl)
theorem e_slices_IndexFunc_string_at_named_1 (x : List ByteArray) : M.slices_IndexFunc_string_at_named_1 x = ((slices_IndexFunc_string_at_named_1_L0 ((x.length : Int), 0, x)).bind fun s1 =>
    Sum.elim (fun a2 =>
      some a2) (fun b3 =>
      some (-1)) s1) :=
  (RT_eq P tab (.fn s_slices_IndexFunc_string_at_named_1) x).trans (by kernel_rfl)
theorem e_slices_DeleteFunc_string_at_named_1_L0 (x : Int × Int × (List ByteArray)) : M.slices_DeleteFunc_string_at_named_1_L0 x = (bif decide (x.2.1 < (x.2.2.length : Int)) then ((gd (0 ≤ x.2.1)).bind fun _ =>
      (gd (x.2.1 < (x.2.2.length : Int))).bind fun _ =>
      (x.2.2[x.2.1.toNat]?).bind fun e1 =>
      (impl_named_1 e1).bind fun r2 =>
      bif (!r2) then ((gd (0 ≤ x.1)).bind fun _ =>
        (gd (x.1 < (x.2.2.length : Int))).bind fun _ =>
        slices_DeleteFunc_string_at_named_1_L0 ((IntKind.i64.wrap (x.1 + 1)), (IntKind.i64.wrap (x.2.1 + 1)), (x.2.2.set x.1.toNat e1))) else
      slices_DeleteFunc_string_at_named_1_L0 (x.1, (IntKind.i64.wrap (x.2.1 + 1)), x.2.2)) else
    some (x.1, x.2.2)) :=
  (RT_eq P tab (.lp s_slices_DeleteFunc_string_at_named_1 L_slices_DeleteFunc_string_at_named_1_L0) x).trans (by kernel_rfl)
theorem e_slices_DeleteFunc_string_at_named_1 (x : List ByteArray) : M.slices_DeleteFunc_string_at_named_1 x = ((slices_IndexFunc_string_at_named_1 x).bind fun r1 =>
    bif decide (r1 = (-1)) then some x else
    (slices_DeleteFunc_string_at_named_1_L0 (r1, (IntKind.i64.wrap (r1 + 1)), x)).bind fun s2 =>
    (gd (0 ≤ s2.1)).bind fun _ =>
    (gd (s2.1 ≤ (s2.2.length : Int))).bind fun _ =>
    (gd (0 ≤ s2.1)).bind fun _ =>
    (gd (s2.1 ≤ ((s2.2.take s2.1.toNat ++ List.replicate (s2.2.length - s2.1.toNat) (⟨⟨[]⟩⟩ : ByteArray)).length : Int))).bind fun _ =>
    some ((s2.2.take s2.1.toNat ++ List.replicate (s2.2.length - s2.1.toNat) (⟨⟨[]⟩⟩ : ByteArray)).take s2.1.toNat)) :=
  (RT_eq P tab (.fn s_slices_DeleteFunc_string_at_named_1) x).trans (by kernel_rfl)
theorem e_impl_named (x : List ByteArray) : M.impl_named x = ((impl_sorted x).bind fun r1 =>
    (slices_DeleteFunc_string_at_named_1 r1).bind fun r2 =>
    some r2) :=
  (RT_eq P tab (.fn s_impl_named) x).trans (by kernel_rfl)
theorem e_impl_namesOfDecs_L0 (x : (List Dec) × Int × Int × (List ByteArray)) : M.impl_namesOfDecs_L0 x = (bif decide (x.2.2.1 < x.2.1) then ((ix x.1 x.2.2.1).bind fun e1 =>
      (gd (x.2.2.2.length + [e1.Name].length ≤ grow)).bind fun _ =>
      (impl_boundDec (e1, (x.2.2.2 ++ [e1.Name]))).bind fun r2 =>
      impl_namesOfDecs_L0 (x.1, x.2.1, (IntKind.i64.wrap (x.2.2.1 + 1)), r2)) else
    some x.2.2.2) :=
  (RT_eq P tab (.lp s_impl_namesOfDecs L_impl_namesOfDecs_L0) x).trans (by kernel_rfl)
theorem e_impl_namesOfDecs (x : List Dec) : M.impl_namesOfDecs x = ((impl_namesOfDecs_L0 (x, (x.length : Int), 0, [])).bind fun s1 =>
    (impl_mappedDecs_at_namesOfDecs_1 (x, s1)).bind fun r2 =>
    (impl_named r2.2).bind fun r3 =>
    some r3) :=
  (RT_eq P tab (.fn s_impl_namesOfDecs) x).trans (by kernel_rfl)
theorem e_impl_NamesOf (x : Prog) : M.impl_NamesOf x = ((impl_namesOfDecs x.Decs).bind fun r1 =>
    some r1) :=
  (RT_eq P tab (.fn s_impl_NamesOf) x).trans (by kernel_rfl)
theorem e_laws_eqStringS_L0 (x : (List ByteArray) × (List ByteArray) × Int) : M.laws_eqStringS_L0 x = (bif decide (x.2.2 < (x.1.length : Int)) then ((ix x.1 x.2.2).bind fun e1 =>
      (ix x.2.1 x.2.2).bind fun e2 =>
      bif (!decide (e1 = e2)) then some (.inl false) else
      laws_eqStringS_L0 (x.1, x.2.1, (IntKind.i64.wrap (x.2.2 + 1)))) else
    some (.inr ())) :=
  (RT_eq P tab (.lp s_laws_eqStringS L_laws_eqStringS_L0) x).trans (by kernel_rfl)
theorem e_laws_eqStringS (x : (List ByteArray) × (List ByteArray)) : M.laws_eqStringS x = (bif (!decide ((x.1.length : Int) = (x.2.length : Int))) then some false else
    (laws_eqStringS_L0 (x.1, x.2, 0)).bind fun s1 =>
    Sum.elim (fun a2 =>
      some a2) (fun b3 =>
      some true) s1) :=
  (RT_eq P tab (.fn s_laws_eqStringS) x).trans (by kernel_rfl)
theorem e_laws_eqTy (x : Ty × Ty) : M.laws_eqTy x = (bif (!decide (x.1.K = x.2.K)) then some false else
    bif (!decide (x.1.S = x.2.S)) then some false else
    bif (!decide (x.1.N = x.2.N)) then some false else
    (laws_eqTyS (x.1.L, x.2.L)).bind fun r1 =>
    bif (!r1) then some false else
    some true) :=
  (RT_eq P tab (.fn s_laws_eqTy) x).trans (by kernel_rfl)
theorem e_laws_eqTyS_L0 (x : (List Ty) × (List Ty) × Int) : M.laws_eqTyS_L0 x = (bif decide (x.2.2 < (x.1.length : Int)) then ((ix x.1 x.2.2).bind fun e1 =>
      (ix x.2.1 x.2.2).bind fun e2 =>
      (laws_eqTy (e1, e2)).bind fun r3 =>
      bif (!r3) then some (.inl false) else
      laws_eqTyS_L0 (x.1, x.2.1, (IntKind.i64.wrap (x.2.2 + 1)))) else
    some (.inr ())) :=
  (RT_eq P tab (.lp s_laws_eqTyS L_laws_eqTyS_L0) x).trans (by kernel_rfl)
theorem e_laws_eqTyS (x : (List Ty) × (List Ty)) : M.laws_eqTyS x = (bif (!decide ((x.1.length : Int) = (x.2.length : Int))) then some false else
    (laws_eqTyS_L0 (x.1, x.2, 0)).bind fun s1 =>
    Sum.elim (fun a2 =>
      some a2) (fun b3 =>
      some true) s1) :=
  (RT_eq P tab (.fn s_laws_eqTyS) x).trans (by kernel_rfl)
theorem e_laws_eqCon (x : Con × Con) : M.laws_eqCon x = (bif (!decide (x.1.Name = x.2.Name)) then some false else
    (laws_eqTyS (x.1.Args, x.2.Args)).bind fun r1 =>
    bif (!r1) then some false else
    some true) :=
  (RT_eq P tab (.fn s_laws_eqCon) x).trans (by kernel_rfl)
theorem e_laws_eqConS_L0 (x : (List Con) × (List Con) × Int) : M.laws_eqConS_L0 x = (bif decide (x.2.2 < (x.1.length : Int)) then ((ix x.1 x.2.2).bind fun e1 =>
      (ix x.2.1 x.2.2).bind fun e2 =>
      (laws_eqCon (e1, e2)).bind fun r3 =>
      bif (!r3) then some (.inl false) else
      laws_eqConS_L0 (x.1, x.2.1, (IntKind.i64.wrap (x.2.2 + 1)))) else
    some (.inr ())) :=
  (RT_eq P tab (.lp s_laws_eqConS L_laws_eqConS_L0) x).trans (by kernel_rfl)
theorem e_laws_eqConS (x : (List Con) × (List Con)) : M.laws_eqConS x = (bif (!decide ((x.1.length : Int) = (x.2.length : Int))) then some false else
    (laws_eqConS_L0 (x.1, x.2, 0)).bind fun s1 =>
    Sum.elim (fun a2 =>
      some a2) (fun b3 =>
      some true) s1) :=
  (RT_eq P tab (.fn s_laws_eqConS) x).trans (by kernel_rfl)
theorem e_laws_eqData (x : Data × Data) : M.laws_eqData x = (bif (!decide (x.1.Name = x.2.Name)) then some false else
    (laws_eqConS (x.1.Cons, x.2.Cons)).bind fun r1 =>
    bif (!r1) then some false else
    some true) :=
  (RT_eq P tab (.fn s_laws_eqData) x).trans (by kernel_rfl)
theorem e_laws_eqDataS_L0 (x : (List Data) × (List Data) × Int) : M.laws_eqDataS_L0 x = (bif decide (x.2.2 < (x.1.length : Int)) then ((ix x.1 x.2.2).bind fun e1 =>
      (ix x.2.1 x.2.2).bind fun e2 =>
      (laws_eqData (e1, e2)).bind fun r3 =>
      bif (!r3) then some (.inl false) else
      laws_eqDataS_L0 (x.1, x.2.1, (IntKind.i64.wrap (x.2.2 + 1)))) else
    some (.inr ())) :=
  (RT_eq P tab (.lp s_laws_eqDataS L_laws_eqDataS_L0) x).trans (by kernel_rfl)
theorem e_laws_eqDataS (x : (List Data) × (List Data)) : M.laws_eqDataS x = (bif (!decide ((x.1.length : Int) = (x.2.length : Int))) then some false else
    (laws_eqDataS_L0 (x.1, x.2, 0)).bind fun s1 =>
    Sum.elim (fun a2 =>
      some a2) (fun b3 =>
      some true) s1) :=
  (RT_eq P tab (.fn s_laws_eqDataS) x).trans (by kernel_rfl)
theorem e_laws_eqExpS_L0 (x : (List Exp) × (List Exp) × Int) : M.laws_eqExpS_L0 x = (bif decide (x.2.2 < (x.1.length : Int)) then ((ix x.1 x.2.2).bind fun e1 =>
      (ix x.2.1 x.2.2).bind fun e2 =>
      (laws_eqExp (e1, e2)).bind fun r3 =>
      bif (!r3) then some (.inl false) else
      laws_eqExpS_L0 (x.1, x.2.1, (IntKind.i64.wrap (x.2.2 + 1)))) else
    some (.inr ())) :=
  (RT_eq P tab (.lp s_laws_eqExpS L_laws_eqExpS_L0) x).trans (by kernel_rfl)
theorem e_laws_eqExpS (x : (List Exp) × (List Exp)) : M.laws_eqExpS x = (bif (!decide ((x.1.length : Int) = (x.2.length : Int))) then some false else
    (laws_eqExpS_L0 (x.1, x.2, 0)).bind fun s1 =>
    Sum.elim (fun a2 =>
      some a2) (fun b3 =>
      some true) s1) :=
  (RT_eq P tab (.fn s_laws_eqExpS) x).trans (by kernel_rfl)
theorem e_laws_eqAlt (x : Alt × Alt) : M.laws_eqAlt x = (bif (!decide (x.1.Great = x.2.Great)) then some false else
    (laws_eqStringS (x.1.Vars, x.2.Vars)).bind fun r1 =>
    bif (!r1) then some false else
    (laws_eqExp (x.1.E, x.2.E)).bind fun r2 =>
    bif (!r2) then some false else
    some true) :=
  (RT_eq P tab (.fn s_laws_eqAlt) x).trans (by kernel_rfl)
theorem e_laws_eqAltS_L0 (x : (List Alt) × (List Alt) × Int) : M.laws_eqAltS_L0 x = (bif decide (x.2.2 < (x.1.length : Int)) then ((ix x.1 x.2.2).bind fun e1 =>
      (ix x.2.1 x.2.2).bind fun e2 =>
      (laws_eqAlt (e1, e2)).bind fun r3 =>
      bif (!r3) then some (.inl false) else
      laws_eqAltS_L0 (x.1, x.2.1, (IntKind.i64.wrap (x.2.2 + 1)))) else
    some (.inr ())) :=
  (RT_eq P tab (.lp s_laws_eqAltS L_laws_eqAltS_L0) x).trans (by kernel_rfl)
theorem e_laws_eqAltS (x : (List Alt) × (List Alt)) : M.laws_eqAltS x = (bif (!decide ((x.1.length : Int) = (x.2.length : Int))) then some false else
    (laws_eqAltS_L0 (x.1, x.2, 0)).bind fun s1 =>
    Sum.elim (fun a2 =>
      some a2) (fun b3 =>
      some true) s1) :=
  (RT_eq P tab (.fn s_laws_eqAltS) x).trans (by kernel_rfl)
theorem e_laws_eqExp (x : Exp × Exp) : M.laws_eqExp x = (bif (!decide (x.1.K = x.2.K)) then some false else
    bif (!decide (x.1.S = x.2.S)) then some false else
    bif (!decide (x.1.N = x.2.N)) then some false else
    (laws_eqExpS (x.1.L, x.2.L)).bind fun r1 =>
    bif (!r1) then some false else
    (laws_eqDecS (x.1.Decs, x.2.Decs)).bind fun r2 =>
    bif (!r2) then some false else
    (laws_eqAltS (x.1.Alts, x.2.Alts)).bind fun r3 =>
    bif (!r3) then some false else
    some true) :=
  (RT_eq P tab (.fn s_laws_eqExp) x).trans (by kernel_rfl)
theorem e_laws_eqDec (x : Dec × Dec) : M.laws_eqDec x = (bif (!decide (x.1.Name = x.2.Name)) then some false else
    (laws_eqStringS (x.1.Pars, x.2.Pars)).bind fun r1 =>
    bif (!r1) then some false else
    (laws_eqExp (x.1.E, x.2.E)).bind fun r2 =>
    bif (!r2) then some false else
    (laws_eqDecS (x.1.Where, x.2.Where)).bind fun r3 =>
    bif (!r3) then some false else
    some true) :=
  (RT_eq P tab (.fn s_laws_eqDec) x).trans (by kernel_rfl)
theorem e_laws_eqDecS_L0 (x : (List Dec) × (List Dec) × Int) : M.laws_eqDecS_L0 x = (bif decide (x.2.2 < (x.1.length : Int)) then ((ix x.1 x.2.2).bind fun e1 =>
      (ix x.2.1 x.2.2).bind fun e2 =>
      (laws_eqDec (e1, e2)).bind fun r3 =>
      bif (!r3) then some (.inl false) else
      laws_eqDecS_L0 (x.1, x.2.1, (IntKind.i64.wrap (x.2.2 + 1)))) else
    some (.inr ())) :=
  (RT_eq P tab (.lp s_laws_eqDecS L_laws_eqDecS_L0) x).trans (by kernel_rfl)
theorem e_laws_eqDecS (x : (List Dec) × (List Dec)) : M.laws_eqDecS x = (bif (!decide ((x.1.length : Int) = (x.2.length : Int))) then some false else
    (laws_eqDecS_L0 (x.1, x.2, 0)).bind fun s1 =>
    Sum.elim (fun a2 =>
      some a2) (fun b3 =>
      some true) s1) :=
  (RT_eq P tab (.fn s_laws_eqDecS) x).trans (by kernel_rfl)
theorem e_laws_eqProg (x : Prog × Prog) : M.laws_eqProg x = ((laws_eqDataS (x.1.Datas, x.2.Datas)).bind fun r1 =>
    bif (!r1) then some false else
    (laws_eqDecS (x.1.Decs, x.2.Decs)).bind fun r2 =>
    bif (!r2) then some false else
    some true) :=
  (RT_eq P tab (.fn s_laws_eqProg) x).trans (by kernel_rfl)
theorem e_laws_markText_L0 (x : Int × ByteArray) : M.laws_markText_L0 x = (bif decide (0 < x.1) then ((gd ((10 : Int) ≠ 0)).bind fun _ =>
      (gd ((bsOf [(IntKind.u8.wrap (IntKind.i64.wrap (48 + (x.1.tmod 10))))]).size + x.2.size ≤ lim)).bind fun _ =>
      (gd ((10 : Int) ≠ 0)).bind fun _ =>
      laws_markText_L0 ((IntKind.i64.wrap (x.1.tdiv 10)), ((bsOf [(IntKind.u8.wrap (IntKind.i64.wrap (48 + (x.1.tmod 10))))]) ++ x.2))) else
    some x.2) :=
  (RT_eq P tab (.lp s_laws_markText L_laws_markText_L0) x).trans (by kernel_rfl)
theorem e_laws_markText (x : Int) : M.laws_markText x = (bif decide (x ≤ 0) then some (⟨⟨[109, 48]⟩⟩ : ByteArray) else
    (laws_markText_L0 (x, (⟨⟨[]⟩⟩ : ByteArray))).bind fun s1 =>
    (gd ((⟨⟨[109]⟩⟩ : ByteArray).size + s1.size ≤ lim)).bind fun _ =>
    some ((⟨⟨[109]⟩⟩ : ByteArray) ++ s1)) :=
  (RT_eq P tab (.fn s_laws_markText) x).trans (by kernel_rfl)
theorem e_laws_heldStringS_L0 (x : (List ByteArray) × Int × Int) : M.laws_heldStringS_L0 x = (bif decide (x.2.2 < (x.1.length : Int)) then ((ix x.1 x.2.2).bind fun e1 =>
      (laws_markText x.2.1).bind fun r2 =>
      bif (!decide (e1 = r2)) then some (.inl (-1)) else
      laws_heldStringS_L0 (x.1, (IntKind.i64.wrap (x.2.1 + 1)), (IntKind.i64.wrap (x.2.2 + 1)))) else
    some (.inr x.2.1)) :=
  (RT_eq P tab (.lp s_laws_heldStringS L_laws_heldStringS_L0) x).trans (by kernel_rfl)
theorem e_laws_heldStringS (x : (List ByteArray) × Int) : M.laws_heldStringS x = ((laws_heldStringS_L0 (x.1, x.2, 0)).bind fun s1 =>
    Sum.elim (fun a2 =>
      some a2) (fun b3 =>
      some b3) s1) :=
  (RT_eq P tab (.fn s_laws_heldStringS) x).trans (by kernel_rfl)
end M
end W
