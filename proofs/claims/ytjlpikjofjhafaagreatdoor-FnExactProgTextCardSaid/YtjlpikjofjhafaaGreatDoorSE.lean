import Derived.Test.YtjlpikjofjhafaaGreatDoorSTab
set_option linter.unusedSimpArgs false
set_option linter.unusedVariables false
set_option linter.unusedSectionVars false
namespace W
open Go HL HL.X
set_option linter.unusedVariables false
set_option maxRecDepth 1000000
set_option maxHeartbeats 4000000
theorem meet_self {O : Type} (a : Option O) : X.meet a a = a := by simp [X.meet]
namespace M
theorem e_laws_szTy (x : Ty × Int) : M.laws_szTy x = (bif decide ((IntKind.i64.wrap (x.2 - (x.1.S.size : Int))) < 0) then some (-1) else
    (laws_szTyS (x.1.L, (IntKind.i64.wrap (x.2 - (x.1.S.size : Int))))).bind fun r1 =>
    bif decide (r1 < 0) then some (-1) else
    some r1) :=
  (RT_eq P tab (.fn s_laws_szTy) x).trans (by kernel_rfl)
theorem e_laws_szTyS_L0 (x : (List Ty) × Int × Int) : M.laws_szTyS_L0 x = (bif decide (x.2.2 < (x.1.length : Int)) then ((ix x.1 x.2.2).bind fun e1 =>
      (laws_szTy (e1, x.2.1)).bind fun r2 =>
      bif decide (r2 < 0) then some (.inl (-1)) else
      laws_szTyS_L0 (x.1, r2, (IntKind.i64.wrap (x.2.2 + 1)))) else
    some (.inr x.2.1)) :=
  (RT_eq P tab (.lp s_laws_szTyS L_laws_szTyS_L0) x).trans (by kernel_rfl)
theorem e_laws_szTyS (x : (List Ty) × Int) : M.laws_szTyS x = (bif decide ((IntKind.i64.wrap (x.2 - (x.1.length : Int))) < 0) then some (-1) else
    (laws_szTyS_L0 (x.1, (IntKind.i64.wrap (x.2 - (x.1.length : Int))), 0)).bind fun s1 =>
    Sum.elim (fun a2 =>
      some a2) (fun b3 =>
      some b3) s1) :=
  (RT_eq P tab (.fn s_laws_szTyS) x).trans (by kernel_rfl)
theorem e_laws_szCon (x : Con × Int) : M.laws_szCon x = (bif decide ((IntKind.i64.wrap (x.2 - (x.1.Name.size : Int))) < 0) then some (-1) else
    (laws_szTyS (x.1.Args, (IntKind.i64.wrap (x.2 - (x.1.Name.size : Int))))).bind fun r1 =>
    bif decide (r1 < 0) then some (-1) else
    some r1) :=
  (RT_eq P tab (.fn s_laws_szCon) x).trans (by kernel_rfl)
theorem e_laws_szConS_L0 (x : (List Con) × Int × Int) : M.laws_szConS_L0 x = (bif decide (x.2.2 < (x.1.length : Int)) then ((ix x.1 x.2.2).bind fun e1 =>
      (laws_szCon (e1, x.2.1)).bind fun r2 =>
      bif decide (r2 < 0) then some (.inl (-1)) else
      laws_szConS_L0 (x.1, r2, (IntKind.i64.wrap (x.2.2 + 1)))) else
    some (.inr x.2.1)) :=
  (RT_eq P tab (.lp s_laws_szConS L_laws_szConS_L0) x).trans (by kernel_rfl)
theorem e_laws_szConS (x : (List Con) × Int) : M.laws_szConS x = (bif decide ((IntKind.i64.wrap (x.2 - (x.1.length : Int))) < 0) then some (-1) else
    (laws_szConS_L0 (x.1, (IntKind.i64.wrap (x.2 - (x.1.length : Int))), 0)).bind fun s1 =>
    Sum.elim (fun a2 =>
      some a2) (fun b3 =>
      some b3) s1) :=
  (RT_eq P tab (.fn s_laws_szConS) x).trans (by kernel_rfl)
theorem e_laws_szData (x : Data × Int) : M.laws_szData x = (bif decide ((IntKind.i64.wrap (x.2 - (x.1.Name.size : Int))) < 0) then some (-1) else
    (laws_szConS (x.1.Cons, (IntKind.i64.wrap (x.2 - (x.1.Name.size : Int))))).bind fun r1 =>
    bif decide (r1 < 0) then some (-1) else
    some r1) :=
  (RT_eq P tab (.fn s_laws_szData) x).trans (by kernel_rfl)
theorem e_laws_szDataS_L0 (x : (List Data) × Int × Int) : M.laws_szDataS_L0 x = (bif decide (x.2.2 < (x.1.length : Int)) then ((ix x.1 x.2.2).bind fun e1 =>
      (laws_szData (e1, x.2.1)).bind fun r2 =>
      bif decide (r2 < 0) then some (.inl (-1)) else
      laws_szDataS_L0 (x.1, r2, (IntKind.i64.wrap (x.2.2 + 1)))) else
    some (.inr x.2.1)) :=
  (RT_eq P tab (.lp s_laws_szDataS L_laws_szDataS_L0) x).trans (by kernel_rfl)
theorem e_laws_szDataS (x : (List Data) × Int) : M.laws_szDataS x = (bif decide ((IntKind.i64.wrap (x.2 - (x.1.length : Int))) < 0) then some (-1) else
    (laws_szDataS_L0 (x.1, (IntKind.i64.wrap (x.2 - (x.1.length : Int))), 0)).bind fun s1 =>
    Sum.elim (fun a2 =>
      some a2) (fun b3 =>
      some b3) s1) :=
  (RT_eq P tab (.fn s_laws_szDataS) x).trans (by kernel_rfl)
theorem e_laws_szStringS_L0 (x : (List ByteArray) × Int × Int) : M.laws_szStringS_L0 x = (bif decide (x.2.2 < (x.1.length : Int)) then ((ix x.1 x.2.2).bind fun e1 =>
      bif decide ((IntKind.i64.wrap (x.2.1 - (e1.size : Int))) < 0) then some (.inl (-1)) else
      laws_szStringS_L0 (x.1, (IntKind.i64.wrap (x.2.1 - (e1.size : Int))), (IntKind.i64.wrap (x.2.2 + 1)))) else
    some (.inr x.2.1)) :=
  (RT_eq P tab (.lp s_laws_szStringS L_laws_szStringS_L0) x).trans (by kernel_rfl)
theorem e_laws_szStringS (x : (List ByteArray) × Int) : M.laws_szStringS x = (bif decide ((IntKind.i64.wrap (x.2 - (x.1.length : Int))) < 0) then some (-1) else
    (laws_szStringS_L0 (x.1, (IntKind.i64.wrap (x.2 - (x.1.length : Int))), 0)).bind fun s1 =>
    Sum.elim (fun a2 =>
      some a2) (fun b3 =>
      some b3) s1) :=
  (RT_eq P tab (.fn s_laws_szStringS) x).trans (by kernel_rfl)
theorem e_laws_szExpS_L0 (x : (List Exp) × Int × Int) : M.laws_szExpS_L0 x = (bif decide (x.2.2 < (x.1.length : Int)) then ((ix x.1 x.2.2).bind fun e1 =>
      (laws_szExp (e1, x.2.1)).bind fun r2 =>
      bif decide (r2 < 0) then some (.inl (-1)) else
      laws_szExpS_L0 (x.1, r2, (IntKind.i64.wrap (x.2.2 + 1)))) else
    some (.inr x.2.1)) :=
  (RT_eq P tab (.lp s_laws_szExpS L_laws_szExpS_L0) x).trans (by kernel_rfl)
theorem e_laws_szExpS (x : (List Exp) × Int) : M.laws_szExpS x = (bif decide ((IntKind.i64.wrap (x.2 - (x.1.length : Int))) < 0) then some (-1) else
    (laws_szExpS_L0 (x.1, (IntKind.i64.wrap (x.2 - (x.1.length : Int))), 0)).bind fun s1 =>
    Sum.elim (fun a2 =>
      some a2) (fun b3 =>
      some b3) s1) :=
  (RT_eq P tab (.fn s_laws_szExpS) x).trans (by kernel_rfl)
theorem e_laws_szAlt (x : Alt × Int) : M.laws_szAlt x = (bif decide ((IntKind.i64.wrap (x.2 - (x.1.Great.size : Int))) < 0) then some (-1) else
    (laws_szStringS (x.1.Vars, (IntKind.i64.wrap (x.2 - (x.1.Great.size : Int))))).bind fun r1 =>
    bif decide (r1 < 0) then some (-1) else
    (laws_szExp (x.1.E, r1)).bind fun r2 =>
    bif decide (r2 < 0) then some (-1) else
    some r2) :=
  (RT_eq P tab (.fn s_laws_szAlt) x).trans (by kernel_rfl)
theorem e_laws_szAltS_L0 (x : (List Alt) × Int × Int) : M.laws_szAltS_L0 x = (bif decide (x.2.2 < (x.1.length : Int)) then ((ix x.1 x.2.2).bind fun e1 =>
      (laws_szAlt (e1, x.2.1)).bind fun r2 =>
      bif decide (r2 < 0) then some (.inl (-1)) else
      laws_szAltS_L0 (x.1, r2, (IntKind.i64.wrap (x.2.2 + 1)))) else
    some (.inr x.2.1)) :=
  (RT_eq P tab (.lp s_laws_szAltS L_laws_szAltS_L0) x).trans (by kernel_rfl)
theorem e_laws_szAltS (x : (List Alt) × Int) : M.laws_szAltS x = (bif decide ((IntKind.i64.wrap (x.2 - (x.1.length : Int))) < 0) then some (-1) else
    (laws_szAltS_L0 (x.1, (IntKind.i64.wrap (x.2 - (x.1.length : Int))), 0)).bind fun s1 =>
    Sum.elim (fun a2 =>
      some a2) (fun b3 =>
      some b3) s1) :=
  (RT_eq P tab (.fn s_laws_szAltS) x).trans (by kernel_rfl)
theorem e_laws_szExp (x : Exp × Int) : M.laws_szExp x = (bif decide ((IntKind.i64.wrap (x.2 - (x.1.S.size : Int))) < 0) then some (-1) else
    (laws_szExpS (x.1.L, (IntKind.i64.wrap (x.2 - (x.1.S.size : Int))))).bind fun r1 =>
    bif decide (r1 < 0) then some (-1) else
    (laws_szDecS (x.1.Decs, r1)).bind fun r2 =>
    bif decide (r2 < 0) then some (-1) else
    (laws_szAltS (x.1.Alts, r2)).bind fun r3 =>
    bif decide (r3 < 0) then some (-1) else
    some r3) :=
  (RT_eq P tab (.fn s_laws_szExp) x).trans (by kernel_rfl)
theorem e_laws_szDec (x : Dec × Int) : M.laws_szDec x = (bif decide ((IntKind.i64.wrap (x.2 - (x.1.Name.size : Int))) < 0) then some (-1) else
    (laws_szStringS (x.1.Pars, (IntKind.i64.wrap (x.2 - (x.1.Name.size : Int))))).bind fun r1 =>
    bif decide (r1 < 0) then some (-1) else
    (laws_szExp (x.1.E, r1)).bind fun r2 =>
    bif decide (r2 < 0) then some (-1) else
    (laws_szDecS (x.1.Where, r2)).bind fun r3 =>
    bif decide (r3 < 0) then some (-1) else
    some r3) :=
  (RT_eq P tab (.fn s_laws_szDec) x).trans (by kernel_rfl)
theorem e_laws_szDecS_L0 (x : (List Dec) × Int × Int) : M.laws_szDecS_L0 x = (bif decide (x.2.2 < (x.1.length : Int)) then ((ix x.1 x.2.2).bind fun e1 =>
      (laws_szDec (e1, x.2.1)).bind fun r2 =>
      bif decide (r2 < 0) then some (.inl (-1)) else
      laws_szDecS_L0 (x.1, r2, (IntKind.i64.wrap (x.2.2 + 1)))) else
    some (.inr x.2.1)) :=
  (RT_eq P tab (.lp s_laws_szDecS L_laws_szDecS_L0) x).trans (by kernel_rfl)
theorem e_laws_szDecS (x : (List Dec) × Int) : M.laws_szDecS x = (bif decide ((IntKind.i64.wrap (x.2 - (x.1.length : Int))) < 0) then some (-1) else
    (laws_szDecS_L0 (x.1, (IntKind.i64.wrap (x.2 - (x.1.length : Int))), 0)).bind fun s1 =>
    Sum.elim (fun a2 =>
      some a2) (fun b3 =>
      some b3) s1) :=
  (RT_eq P tab (.fn s_laws_szDecS) x).trans (by kernel_rfl)
theorem e_laws_szProg (x : Prog × Int) : M.laws_szProg x = ((laws_szDataS (x.1.Datas, x.2)).bind fun r1 =>
    bif decide (r1 < 0) then some (-1) else
    (laws_szDecS (x.1.Decs, r1)).bind fun r2 =>
    bif decide (r2 < 0) then some (-1) else
    some r2) :=
  (RT_eq P tab (.fn s_laws_szProg) x).trans (by kernel_rfl)
theorem e_laws_toTy (x : Ty) : M.laws_toTy x = ((laws_toTyS x.L).bind fun r1 =>
    some (Ty.mk x.K x.S x.N r1)) :=
  (RT_eq P tab (.fn s_laws_toTy) x).trans (by kernel_rfl)
theorem e_laws_toTyS_L0 (x : (List Ty) × Int × (List Ty)) : M.laws_toTyS_L0 x = (bif decide (x.2.1 < (x.1.length : Int)) then ((ix x.1 x.2.1).bind fun e1 =>
      (laws_toTy e1).bind fun r2 =>
      (gd (0 ≤ x.2.1)).bind fun _ =>
      (gd (x.2.1 < (x.2.2.length : Int))).bind fun _ =>
      laws_toTyS_L0 (x.1, (IntKind.i64.wrap (x.2.1 + 1)), (x.2.2.set x.2.1.toNat r2))) else
    some x.2.2) :=
  (RT_eq P tab (.lp s_laws_toTyS L_laws_toTyS_L0) x).trans (by kernel_rfl)
theorem e_laws_toTyS (x : List Ty) : M.laws_toTyS x = ((gd (0 ≤ (x.length : Int))).bind fun _ =>
    (gd ((x.length : Int) ≤ 1099511627776)).bind fun _ =>
    (laws_toTyS_L0 (x, 0, (List.replicate ((x.length : Int).toNat) (Ty.mk 0 (⟨⟨[]⟩⟩ : ByteArray) 0 [])))).bind fun s1 =>
    some s1) :=
  (RT_eq P tab (.fn s_laws_toTyS) x).trans (by kernel_rfl)
theorem e_laws_toCon (x : Con) : M.laws_toCon x = ((laws_toTyS x.Args).bind fun r1 =>
    some (Con.mk x.Name r1)) :=
  (RT_eq P tab (.fn s_laws_toCon) x).trans (by kernel_rfl)
theorem e_laws_toConS_L0 (x : (List Con) × Int × (List Con)) : M.laws_toConS_L0 x = (bif decide (x.2.1 < (x.1.length : Int)) then ((ix x.1 x.2.1).bind fun e1 =>
      (laws_toCon e1).bind fun r2 =>
      (gd (0 ≤ x.2.1)).bind fun _ =>
      (gd (x.2.1 < (x.2.2.length : Int))).bind fun _ =>
      laws_toConS_L0 (x.1, (IntKind.i64.wrap (x.2.1 + 1)), (x.2.2.set x.2.1.toNat r2))) else
    some x.2.2) :=
  (RT_eq P tab (.lp s_laws_toConS L_laws_toConS_L0) x).trans (by kernel_rfl)
theorem e_laws_toConS (x : List Con) : M.laws_toConS x = ((gd (0 ≤ (x.length : Int))).bind fun _ =>
    (gd ((x.length : Int) ≤ 1099511627776)).bind fun _ =>
    (laws_toConS_L0 (x, 0, (List.replicate ((x.length : Int).toNat) (Con.mk (⟨⟨[]⟩⟩ : ByteArray) [])))).bind fun s1 =>
    some s1) :=
  (RT_eq P tab (.fn s_laws_toConS) x).trans (by kernel_rfl)
theorem e_laws_toData (x : Data) : M.laws_toData x = ((laws_toConS x.Cons).bind fun r1 =>
    some (Data.mk x.Name r1)) :=
  (RT_eq P tab (.fn s_laws_toData) x).trans (by kernel_rfl)
theorem e_laws_toDataS_L0 (x : (List Data) × Int × (List Data)) : M.laws_toDataS_L0 x = (bif decide (x.2.1 < (x.1.length : Int)) then ((ix x.1 x.2.1).bind fun e1 =>
      (laws_toData e1).bind fun r2 =>
      (gd (0 ≤ x.2.1)).bind fun _ =>
      (gd (x.2.1 < (x.2.2.length : Int))).bind fun _ =>
      laws_toDataS_L0 (x.1, (IntKind.i64.wrap (x.2.1 + 1)), (x.2.2.set x.2.1.toNat r2))) else
    some x.2.2) :=
  (RT_eq P tab (.lp s_laws_toDataS L_laws_toDataS_L0) x).trans (by kernel_rfl)
theorem e_laws_toDataS (x : List Data) : M.laws_toDataS x = ((gd (0 ≤ (x.length : Int))).bind fun _ =>
    (gd ((x.length : Int) ≤ 1099511627776)).bind fun _ =>
    (laws_toDataS_L0 (x, 0, (List.replicate ((x.length : Int).toNat) (Data.mk (⟨⟨[]⟩⟩ : ByteArray) [])))).bind fun s1 =>
    some s1) :=
  (RT_eq P tab (.fn s_laws_toDataS) x).trans (by kernel_rfl)
theorem e_laws_toStringS_L0 (x : (List ByteArray) × Int × (List ByteArray)) : M.laws_toStringS_L0 x = (bif decide (x.2.1 < (x.1.length : Int)) then ((ix x.1 x.2.1).bind fun e1 =>
      (gd (0 ≤ x.2.1)).bind fun _ =>
      (gd (x.2.1 < (x.2.2.length : Int))).bind fun _ =>
      laws_toStringS_L0 (x.1, (IntKind.i64.wrap (x.2.1 + 1)), (x.2.2.set x.2.1.toNat e1))) else
    some x.2.2) :=
  (RT_eq P tab (.lp s_laws_toStringS L_laws_toStringS_L0) x).trans (by kernel_rfl)
theorem e_laws_toStringS (x : List ByteArray) : M.laws_toStringS x = ((gd (0 ≤ (x.length : Int))).bind fun _ =>
    (gd ((x.length : Int) ≤ 1099511627776)).bind fun _ =>
    (laws_toStringS_L0 (x, 0, (List.replicate ((x.length : Int).toNat) (⟨⟨[]⟩⟩ : ByteArray)))).bind fun s1 =>
    some s1) :=
  (RT_eq P tab (.fn s_laws_toStringS) x).trans (by kernel_rfl)
theorem e_laws_toExpS_L0 (x : (List Exp) × Int × (List Exp)) : M.laws_toExpS_L0 x = (bif decide (x.2.1 < (x.1.length : Int)) then ((ix x.1 x.2.1).bind fun e1 =>
      (laws_toExp e1).bind fun r2 =>
      (gd (0 ≤ x.2.1)).bind fun _ =>
      (gd (x.2.1 < (x.2.2.length : Int))).bind fun _ =>
      laws_toExpS_L0 (x.1, (IntKind.i64.wrap (x.2.1 + 1)), (x.2.2.set x.2.1.toNat r2))) else
    some x.2.2) :=
  (RT_eq P tab (.lp s_laws_toExpS L_laws_toExpS_L0) x).trans (by kernel_rfl)
theorem e_laws_toExpS (x : List Exp) : M.laws_toExpS x = ((gd (0 ≤ (x.length : Int))).bind fun _ =>
    (gd ((x.length : Int) ≤ 1099511627776)).bind fun _ =>
    (laws_toExpS_L0 (x, 0, (List.replicate ((x.length : Int).toNat) (Exp.mk 0 (⟨⟨[]⟩⟩ : ByteArray) 0 [] [] [])))).bind fun s1 =>
    some s1) :=
  (RT_eq P tab (.fn s_laws_toExpS) x).trans (by kernel_rfl)
theorem e_laws_toAlt (x : Alt) : M.laws_toAlt x = ((laws_toStringS x.Vars).bind fun r1 =>
    (laws_toExp x.E).bind fun r2 =>
    some (Alt.mk x.Great r1 (Exp.mk r2.K r2.S r2.N r2.L r2.Decs r2.Alts))) :=
  (RT_eq P tab (.fn s_laws_toAlt) x).trans (by kernel_rfl)
theorem e_laws_toAltS_L0 (x : (List Alt) × Int × (List Alt)) : M.laws_toAltS_L0 x = (bif decide (x.2.1 < (x.1.length : Int)) then ((ix x.1 x.2.1).bind fun e1 =>
      (laws_toAlt e1).bind fun r2 =>
      (gd (0 ≤ x.2.1)).bind fun _ =>
      (gd (x.2.1 < (x.2.2.length : Int))).bind fun _ =>
      laws_toAltS_L0 (x.1, (IntKind.i64.wrap (x.2.1 + 1)), (x.2.2.set x.2.1.toNat r2))) else
    some x.2.2) :=
  (RT_eq P tab (.lp s_laws_toAltS L_laws_toAltS_L0) x).trans (by kernel_rfl)
theorem e_laws_toAltS (x : List Alt) : M.laws_toAltS x = ((gd (0 ≤ (x.length : Int))).bind fun _ =>
    (gd ((x.length : Int) ≤ 1099511627776)).bind fun _ =>
    (laws_toAltS_L0 (x, 0, (List.replicate ((x.length : Int).toNat) (Alt.mk (⟨⟨[]⟩⟩ : ByteArray) [] (Exp.mk 0 (⟨⟨[]⟩⟩ : ByteArray) 0 [] [] []))))).bind fun s1 =>
    some s1) :=
  (RT_eq P tab (.fn s_laws_toAltS) x).trans (by kernel_rfl)
theorem e_laws_toExp (x : Exp) : M.laws_toExp x = ((laws_toExpS x.L).bind fun r1 =>
    (laws_toDecS x.Decs).bind fun r2 =>
    (laws_toAltS x.Alts).bind fun r3 =>
    some (Exp.mk x.K x.S x.N r1 r2 r3)) :=
  (RT_eq P tab (.fn s_laws_toExp) x).trans (by kernel_rfl)
theorem e_laws_toDec (x : Dec) : M.laws_toDec x = ((laws_toStringS x.Pars).bind fun r1 =>
    (laws_toExp x.E).bind fun r2 =>
    (laws_toDecS x.Where).bind fun r3 =>
    some (Dec.mk x.Name r1 (Exp.mk r2.K r2.S r2.N r2.L r2.Decs r2.Alts) r3)) :=
  (RT_eq P tab (.fn s_laws_toDec) x).trans (by kernel_rfl)
theorem e_laws_toDecS_L0 (x : (List Dec) × Int × (List Dec)) : M.laws_toDecS_L0 x = (bif decide (x.2.1 < (x.1.length : Int)) then ((ix x.1 x.2.1).bind fun e1 =>
      (laws_toDec e1).bind fun r2 =>
      (gd (0 ≤ x.2.1)).bind fun _ =>
      (gd (x.2.1 < (x.2.2.length : Int))).bind fun _ =>
      laws_toDecS_L0 (x.1, (IntKind.i64.wrap (x.2.1 + 1)), (x.2.2.set x.2.1.toNat r2))) else
    some x.2.2) :=
  (RT_eq P tab (.lp s_laws_toDecS L_laws_toDecS_L0) x).trans (by kernel_rfl)
theorem e_laws_toDecS (x : List Dec) : M.laws_toDecS x = ((gd (0 ≤ (x.length : Int))).bind fun _ =>
    (gd ((x.length : Int) ≤ 1099511627776)).bind fun _ =>
    (laws_toDecS_L0 (x, 0, (List.replicate ((x.length : Int).toNat) (Dec.mk (⟨⟨[]⟩⟩ : ByteArray) [] (Exp.mk 0 (⟨⟨[]⟩⟩ : ByteArray) 0 [] [] []) [])))).bind fun s1 =>
    some s1) :=
  (RT_eq P tab (.fn s_laws_toDecS) x).trans (by kernel_rfl)
theorem e_laws_toProg (x : Prog) : M.laws_toProg x = ((laws_toDataS x.Datas).bind fun r1 =>
    (laws_toDecS x.Decs).bind fun r2 =>
    some (Prog.mk r1 r2)) :=
  (RT_eq P tab (.fn s_laws_toProg) x).trans (by kernel_rfl)
theorem e_spec_l1In (x : Int × Int × Int) : M.spec_l1In x = (bif decide (x.2.1 ≤ x.1) then some (decide (x.1 ≤ x.2.2)) else
    some false) :=
  (RT_eq P tab (.fn s_spec_l1In) x).trans (by kernel_rfl)
theorem e_spec_l1Small (x : Int) : M.spec_l1Small x = ((spec_l1In ((IntKind.i64.wrap x), 97, 122)).bind fun r1 =>
    some r1) :=
  (RT_eq P tab (.fn s_spec_l1Small) x).trans (by kernel_rfl)
theorem e_spec_l1Large (x : Int) : M.spec_l1Large x = ((spec_l1In ((IntKind.i64.wrap x), 65, 90)).bind fun r1 =>
    some r1) :=
  (RT_eq P tab (.fn s_spec_l1Large) x).trans (by kernel_rfl)
theorem e_spec_l1Digit (x : Int) : M.spec_l1Digit x = ((spec_l1In ((IntKind.i64.wrap x), 48, 57)).bind fun r1 =>
    some r1) :=
  (RT_eq P tab (.fn s_spec_l1Digit) x).trans (by kernel_rfl)
theorem e_spec_l1Letter (x : Int) : M.spec_l1Letter x = ((spec_l1Small x).bind fun r1 =>
    bif r1 then some true else
    (spec_l1Large x).bind fun r2 =>
    bif r2 then some true else
    (spec_l1Digit x).bind fun r3 =>
    some r3) :=
  (RT_eq P tab (.fn s_spec_l1Letter) x).trans (by kernel_rfl)
theorem e_spec_l1Letters_L0 (x : ByteArray × Int) : M.spec_l1Letters_L0 x = (bif decide (x.2 < (x.1.size : Int)) then ((bx x.1 x.2).bind fun b1 =>
      (spec_l1Letter b1).bind fun r2 =>
      bif (!r2) then some (.inl false) else
      spec_l1Letters_L0 (x.1, (IntKind.i64.wrap (x.2 + 1)))) else
    some (.inr ())) :=
  (RT_eq P tab (.lp s_spec_l1Letters L_spec_l1Letters_L0) x).trans (by kernel_rfl)
theorem e_spec_l1Letters (x : ByteArray) : M.spec_l1Letters x = ((spec_l1Letters_L0 (x, 0)).bind fun s1 =>
    Sum.elim (fun a2 =>
      some a2) (fun b3 =>
      (spec_l1In ((x.size : Int), 1, 8)).bind fun r4 =>
      some r4) s1) :=
  (RT_eq P tab (.fn s_spec_l1Letters) x).trans (by kernel_rfl)
theorem e_spec_GreatOk (x : ByteArray) : M.spec_GreatOk x = ((spec_l1Letters x).bind fun r1 =>
    bif r1 then ((bx x 0).bind fun b2 =>
      (spec_l1Large b2).bind fun r3 =>
      some r3) else
    some false) :=
  (RT_eq P tab (.fn s_spec_GreatOk) x).trans (by kernel_rfl)
theorem e_spec_l1Has_L0 (x : (List ByteArray) × ByteArray × Int) : M.spec_l1Has_L0 x = (bif decide (x.2.2 < (x.1.length : Int)) then ((ix x.1 x.2.2).bind fun e1 =>
      bif decide (e1 = x.2.1) then some (.inl true) else
      spec_l1Has_L0 (x.1, x.2.1, (IntKind.i64.wrap (x.2.2 + 1)))) else
    some (.inr ())) :=
  (RT_eq P tab (.lp s_spec_l1Has L_spec_l1Has_L0) x).trans (by kernel_rfl)
theorem e_spec_l1Has (x : (List ByteArray) × ByteArray) : M.spec_l1Has x = ((spec_l1Has_L0 (x.1, x.2, 0)).bind fun s1 =>
    Sum.elim (fun a2 =>
      some a2) (fun b3 =>
      some false) s1) :=
  (RT_eq P tab (.fn s_spec_l1Has) x).trans (by kernel_rfl)
theorem e_spec_l3Own (x : ByteArray) : M.spec_l3Own x = ((spec_l1Has ([(⟨⟨[73, 110, 116]⟩⟩ : ByteArray), (⟨⟨[66, 111, 111, 108]⟩⟩ : ByteArray), (⟨⟨[84, 114, 117, 101]⟩⟩ : ByteArray), (⟨⟨[70, 97, 108, 115, 101]⟩⟩ : ByteArray)], x)).bind fun r1 =>
    some r1) :=
  (RT_eq P tab (.fn s_spec_l3Own) x).trans (by kernel_rfl)
theorem e_spec_l3Times_L0 (x : ByteArray × Int × Int × Prog) : M.spec_l3Times_L0 x = (bif decide (x.2.2.1 < (x.2.2.2.Datas.length : Int)) then ((spec_l3Times_L1 (x.1, x.2.1, x.2.2.1, 0, x.2.2.2)).bind fun s1 =>
      spec_l3Times_L0 (x.1, s1.1, (IntKind.i64.wrap (x.2.2.1 + 1)), s1.2)) else
    some x.2.1) :=
  (RT_eq P tab (.lp s_spec_l3Times L_spec_l3Times_L0) x).trans (by kernel_rfl)
theorem e_spec_l3Times_L1 (x : ByteArray × Int × Int × Int × Prog) : M.spec_l3Times_L1 x = ((ix x.2.2.2.2.Datas x.2.2.1).bind fun e1 =>
    bif decide (x.2.2.2.1 < (e1.Cons.length : Int)) then ((ix x.2.2.2.2.Datas x.2.2.1).bind fun e2 =>
      (ix e2.Cons x.2.2.2.1).bind fun e3 =>
      bif decide (e3.Name = x.1) then spec_l3Times_L1 (x.1, (IntKind.i64.wrap (x.2.1 + 1)), x.2.2.1, (IntKind.i64.wrap (x.2.2.2.1 + 1)), x.2.2.2.2) else
      spec_l3Times_L1 (x.1, x.2.1, x.2.2.1, (IntKind.i64.wrap (x.2.2.2.1 + 1)), x.2.2.2.2)) else
    some (x.2.1, x.2.2.2.2)) :=
  (RT_eq P tab (.lp s_spec_l3Times L_spec_l3Times_L1) x).trans (by kernel_rfl)
theorem e_spec_l3Times (x : Prog × ByteArray) : M.spec_l3Times x = ((spec_l3Times_L0 (x.2, 0, 0, x.1)).bind fun s1 =>
    some s1) :=
  (RT_eq P tab (.fn s_spec_l3Times) x).trans (by kernel_rfl)
theorem e_spec_l9Written (x : Ty × Int) : M.spec_l9Written x = ((bif decide (6 < x.2) then some (.inl 100) else
      bif (!decide (x.1.N = 0)) then some (.inl 100) else
      bif (!decide (x.1.K = 3)) then (bif (!decide (x.1.S = (⟨⟨[]⟩⟩ : ByteArray))) then some (.inl 100) else
        bif (!decide (x.1.K = 4)) then (bif decide (0 < (x.1.L.length : Int)) then some (.inl 100) else
          some (.inr x.1)) else
        some (.inr x.1)) else
      bif (!decide (x.1.K = 4)) then (bif decide (0 < (x.1.L.length : Int)) then some (.inl 100) else
        some (.inr x.1)) else
      some (.inr x.1)).bind fun s1 =>
    Sum.elim (fun a2 =>
      some a2) (fun b3 =>
      (bif decide (b3.K = 1) then some (true, b3) else
        some (decide (b3.K = 2), b3)).bind fun s4 =>
      bif s4.1 then some 1 else
      bif decide (b3.K = 3) then ((spec_GreatOk s4.2.S).bind fun r5 =>
        bif r5 then (bif (!decide (s4.2.S = (⟨⟨[73, 110, 116]⟩⟩ : ByteArray))) then (bif (!decide (s4.2.S = (⟨⟨[66, 111, 111, 108]⟩⟩ : ByteArray))) then some 1 else
            some 100) else
          some 100) else
        some 100) else
      bif decide (b3.K = 4) then (bif decide ((s4.2.L.length : Int) = 2) then ((ix s4.2.L 0).bind fun e6 =>
          (ix s4.2.L 1).bind fun e7 =>
          (spec_l9Written (e6, (IntKind.i64.wrap (x.2 + 1)))).bind fun r8 =>
          (spec_l9Written (e7, (IntKind.i64.wrap (x.2 + 1)))).bind fun r9 =>
          some (IntKind.i64.wrap ((IntKind.i64.wrap (1 + r8)) + r9))) else
        some 100) else
      some 100) s1) :=
  (RT_eq P tab (.fn s_spec_l9Written) x).trans (by kernel_rfl)
theorem e_spec_l3Data_L0 (x : Int × Int × Prog × Data) : M.spec_l3Data_L0 x = (bif decide (x.2.1 < x.1) then ((ix x.2.2.1.Datas x.2.1).bind fun e1 =>
      bif decide (e1.Name = x.2.2.2.Name) then some (.inl false) else
      spec_l3Data_L0 (x.1, (IntKind.i64.wrap (x.2.1 + 1)), x.2.2.1, x.2.2.2)) else
    some (.inr (x.2.2.1, x.2.2.2))) :=
  (RT_eq P tab (.lp s_spec_l3Data L_spec_l3Data_L0) x).trans (by kernel_rfl)
theorem e_spec_l3Data_L1 (x : Int × Prog × Data) : M.spec_l3Data_L1 x = (bif decide (x.1 < (x.2.2.Cons.length : Int)) then ((ix x.2.2.Cons x.1).bind fun e1 =>
      (spec_GreatOk e1.Name).bind fun r2 =>
      bif (!r2) then some (.inl false) else
      (spec_l3Own e1.Name).bind fun r3 =>
      bif r3 then some (.inl false) else
      bif decide (4 < (e1.Args.length : Int)) then some (.inl false) else
      (spec_l3Times (x.2.1, e1.Name)).bind fun r4 =>
      bif (!decide (r4 = 1)) then some (.inl false) else
      (spec_l3Data_L2 (0, x.2.1, x.2.2, e1)).bind fun s5 =>
      Sum.elim (fun a6 =>
        some (.inl a6)) (fun b7 =>
        spec_l3Data_L1 ((IntKind.i64.wrap (x.1 + 1)), b7.1, b7.2)) s5) else
    some (.inr x.2.2)) :=
  (RT_eq P tab (.lp s_spec_l3Data L_spec_l3Data_L1) x).trans (by kernel_rfl)
theorem e_spec_l3Data_L2 (x : Int × Prog × Data × Con) : M.spec_l3Data_L2 x = (bif decide (x.1 < (x.2.2.2.Args.length : Int)) then ((ix x.2.2.2.Args x.1).bind fun e1 =>
      (spec_l9Written (e1, 1)).bind fun r2 =>
      bif decide (10 < r2) then some (.inl false) else
      spec_l3Data_L2 ((IntKind.i64.wrap (x.1 + 1)), x.2.1, x.2.2.1, x.2.2.2)) else
    some (.inr (x.2.1, x.2.2.1))) :=
  (RT_eq P tab (.lp s_spec_l3Data L_spec_l3Data_L2) x).trans (by kernel_rfl)
theorem e_spec_l3Data (x : Prog × Int) : M.spec_l3Data x = ((ix x.1.Datas x.2).bind fun e1 =>
    (spec_l3Data_L0 (x.2, 0, x.1, e1)).bind fun s2 =>
    Sum.elim (fun a3 =>
      some a3) (fun b4 =>
      (spec_l3Data_L1 (0, b4.1, b4.2)).bind fun s5 =>
      Sum.elim (fun a6 =>
        some a6) (fun b7 =>
        (spec_GreatOk b7.Name).bind fun r8 =>
        bif r8 then ((spec_l3Own b7.Name).bind fun r9 =>
          bif (!r9) then ((spec_l1In ((b7.Cons.length : Int), 1, 5)).bind fun r10 =>
            some r10) else
          some false) else
        some false) s5) s2) :=
  (RT_eq P tab (.fn s_spec_l3Data) x).trans (by kernel_rfl)
theorem e_spec_l1IsWord (x : ByteArray) : M.spec_l1IsWord x = ((spec_l1Has ([(⟨⟨[108, 101, 116]⟩⟩ : ByteArray), (⟨⟨[105, 110]⟩⟩ : ByteArray), (⟨⟨[119, 104, 101, 114, 101]⟩⟩ : ByteArray), (⟨⟨[99, 97, 115, 101]⟩⟩ : ByteArray), (⟨⟨[111, 102]⟩⟩ : ByteArray), (⟨⟨[105, 102]⟩⟩ : ByteArray), (⟨⟨[116, 104, 101, 110]⟩⟩ : ByteArray), (⟨⟨[101, 108, 115, 101]⟩⟩ : ByteArray), (⟨⟨[100, 97, 116, 97]⟩⟩ : ByteArray)], x)).bind fun r1 =>
    some r1) :=
  (RT_eq P tab (.fn s_spec_l1IsWord) x).trans (by kernel_rfl)
theorem e_spec_NameOk (x : ByteArray) : M.spec_NameOk x = ((spec_l1Letters x).bind fun r1 =>
    bif r1 then ((bx x 0).bind fun b2 =>
      (spec_l1Small b2).bind fun r3 =>
      bif r3 then ((spec_l1IsWord x).bind fun r4 =>
        some (!r4)) else
      some false) else
    some false) :=
  (RT_eq P tab (.fn s_spec_NameOk) x).trans (by kernel_rfl)
theorem e_spec_l3Vars_L0 (x : (List ByteArray) × Int) : M.spec_l3Vars_L0 x = (bif decide (x.2 < (x.1.length : Int)) then ((ix x.1 x.2).bind fun e1 =>
      bif decide (e1 = (⟨⟨[95]⟩⟩ : ByteArray)) then spec_l3Vars_L0 (x.1, (IntKind.i64.wrap (x.2 + 1))) else
      (ix x.1 x.2).bind fun e2 =>
      (spec_NameOk e2).bind fun r3 =>
      bif (!r3) then some (.inl false) else
      (ix x.1 x.2).bind fun e4 =>
      (gd (0 ≤ x.2)).bind fun _ =>
      (gd (x.2 ≤ (x.1.length : Int))).bind fun _ =>
      (spec_l1Has (((x.1.take x.2.toNat).drop 0), e4)).bind fun r5 =>
      bif r5 then some (.inl false) else
      spec_l3Vars_L0 (x.1, (IntKind.i64.wrap (x.2 + 1)))) else
    some (.inr ())) :=
  (RT_eq P tab (.lp s_spec_l3Vars L_spec_l3Vars_L0) x).trans (by kernel_rfl)
theorem e_spec_l3Vars (x : List ByteArray) : M.spec_l3Vars x = ((spec_l3Vars_L0 (x, 0)).bind fun s1 =>
    Sum.elim (fun a2 =>
      some a2) (fun b3 =>
      some (decide ((x.length : Int) ≤ 4))) s1) :=
  (RT_eq P tab (.fn s_spec_l3Vars) x).trans (by kernel_rfl)
theorem e_spec_l3Parts (x : Int) : M.spec_l3Parts x = ((bif decide (x = 1) then some true else
      bif decide (x = 2) then some true else
      some (decide (x = 3))).bind fun s1 =>
    bif s1 then some 0 else
    (bif decide (x = 5) then some true else
      bif decide (x = 6) then some true else
      some (decide (x = 7))).bind fun s2 =>
    bif s2 then some 1 else
    (bif decide (x = 4) then some true else
      some (decide (x = 9))).bind fun s3 =>
    bif s3 then some 2 else
    bif decide (x = 8) then some 3 else
    some (-1)) :=
  (RT_eq P tab (.fn s_spec_l3Parts) x).trans (by kernel_rfl)
theorem e_spec_l3Op (x : ByteArray) : M.spec_l3Op x = ((spec_l1Has ([(⟨⟨[43]⟩⟩ : ByteArray), (⟨⟨[45]⟩⟩ : ByteArray), (⟨⟨[42]⟩⟩ : ByteArray), (⟨⟨[61, 61]⟩⟩ : ByteArray), (⟨⟨[60]⟩⟩ : ByteArray)], x)).bind fun r1 =>
    some r1) :=
  (RT_eq P tab (.fn s_spec_l3Op) x).trans (by kernel_rfl)
theorem e_spec_l3Here (x : Exp) : M.spec_l3Here x = (((spec_l3Parts x.K).bind fun r1 =>
      bif (!decide (r1 = (x.L.length : Int))) then some (.inl false) else
      bif (!decide (x.K = 6)) then (bif decide (0 < (x.Decs.length : Int)) then some (.inl false) else
        bif (!decide (x.K = 7)) then (bif decide (0 < (x.Alts.length : Int)) then some (.inl false) else
          bif (!decide (x.K = 3)) then (bif (!decide (x.N = 0)) then some (.inl false) else
            some (.inr x)) else
          some (.inr x)) else
        bif (!decide (x.K = 3)) then (bif (!decide (x.N = 0)) then some (.inl false) else
          some (.inr x)) else
        some (.inr x)) else
      bif (!decide (x.K = 7)) then (bif decide (0 < (x.Alts.length : Int)) then some (.inl false) else
        bif (!decide (x.K = 3)) then (bif (!decide (x.N = 0)) then some (.inl false) else
          some (.inr x)) else
        some (.inr x)) else
      bif (!decide (x.K = 3)) then (bif (!decide (x.N = 0)) then some (.inl false) else
        some (.inr x)) else
      some (.inr x)).bind fun s2 =>
    Sum.elim (fun a3 =>
      some a3) (fun b4 =>
      bif decide (b4.K = 1) then ((spec_NameOk b4.S).bind fun r5 =>
        some r5) else
      bif decide (b4.K = 2) then ((spec_GreatOk b4.S).bind fun r6 =>
        some r6) else
      bif decide (b4.K = 3) then ((spec_l1In (b4.N, 0, 999999)).bind fun r7 =>
        bif r7 then some (decide (b4.S = (⟨⟨[]⟩⟩ : ByteArray))) else
        some false) else
      bif decide (b4.K = 5) then ((spec_NameOk b4.S).bind fun r8 =>
        bif r8 then some true else
        some (decide (b4.S = (⟨⟨[95]⟩⟩ : ByteArray)))) else
      bif decide (b4.K = 9) then ((spec_l3Op b4.S).bind fun r9 =>
        some r9) else
      bif decide (b4.K = 7) then ((spec_l1In ((b4.Alts.length : Int), 1, 6)).bind fun r10 =>
        bif r10 then some (decide (b4.S = (⟨⟨[]⟩⟩ : ByteArray))) else
        some false) else
      some (decide (b4.S = (⟨⟨[]⟩⟩ : ByteArray)))) s2) :=
  (RT_eq P tab (.fn s_spec_l3Here) x).trans (by kernel_rfl)
theorem e_spec_l3Alt (x : Alt) : M.spec_l3Alt x = ((spec_l3Vars x.Vars).bind fun r1 =>
    bif r1 then ((spec_GreatOk x.Great).bind fun r2 =>
      bif r2 then some true else
      bif decide (x.Great = (⟨⟨[]⟩⟩ : ByteArray)) then some (decide ((x.Vars.length : Int) = 1)) else
      some false) else
    some false) :=
  (RT_eq P tab (.fn s_spec_l3Alt) x).trans (by kernel_rfl)
theorem e_spec_l3Count_L0 (x : Int × Int × Int × Exp) : M.spec_l3Count_L0 x = (bif decide (x.2.2.1 < (x.2.2.2.L.length : Int)) then (bif decide (x.2.1 ≤ 200) then ((ix x.2.2.2.L x.2.2.1).bind fun e1 =>
        (spec_l3Count (e1, (IntKind.i64.wrap (x.1 + 1)))).bind fun r2 =>
        spec_l3Count_L0 (x.1, (IntKind.i64.wrap (x.2.1 + r2)), (IntKind.i64.wrap (x.2.2.1 + 1)), x.2.2.2)) else
      some (x.2.1, x.2.2.2)) else
    some (x.2.1, x.2.2.2)) :=
  (RT_eq P tab (.lp s_spec_l3Count L_spec_l3Count_L0) x).trans (by kernel_rfl)
theorem e_spec_l3Count_L1 (x : Int × Int × Int × Exp) : M.spec_l3Count_L1 x = (bif decide (x.2.2.1 < (x.2.2.2.Alts.length : Int)) then (bif decide (x.2.1 ≤ 200) then ((ix x.2.2.2.Alts x.2.2.1).bind fun e1 =>
        (spec_l3Alt e1).bind fun r2 =>
        bif (!r2) then some (.inl 1000) else
        (ix x.2.2.2.Alts x.2.2.1).bind fun e3 =>
        (spec_l3Count (e3.E, (IntKind.i64.wrap (x.1 + 1)))).bind fun r4 =>
        spec_l3Count_L1 (x.1, (IntKind.i64.wrap (x.2.1 + r4)), (IntKind.i64.wrap (x.2.2.1 + 1)), x.2.2.2)) else
      some (.inr (x.2.1, x.2.2.2))) else
    some (.inr (x.2.1, x.2.2.2))) :=
  (RT_eq P tab (.lp s_spec_l3Count L_spec_l3Count_L1) x).trans (by kernel_rfl)
theorem e_spec_l3Count (x : Exp × Int) : M.spec_l3Count x = (bif decide (12 < x.2) then some 1000 else
    (spec_l3Here x.1).bind fun r1 =>
    bif (!r1) then some 1000 else
    (spec_l3Count_L0 (x.2, 1, 0, x.1)).bind fun s2 =>
    (spec_l3Count_L1 (x.2, s2.1, 0, s2.2)).bind fun s3 =>
    Sum.elim (fun a4 =>
      some a4) (fun b5 =>
      (bif decide (b5.2.K = 6) then some (decide (b5.1 ≤ 200), b5.2) else
        some (false, b5.2)).bind fun s6 =>
      bif s6.1 then ((spec_l3Decs (s6.2.Decs, 6, (IntKind.i64.wrap (x.2 + 1)))).bind fun r7 =>
        some (IntKind.i64.wrap (b5.1 + r7))) else
      some b5.1) s3) :=
  (RT_eq P tab (.fn s_spec_l3Count) x).trans (by kernel_rfl)
theorem e_spec_l3Decs_L0 (x : (List Dec) × Int × Int × Int) : M.spec_l3Decs_L0 x = (bif decide (x.2.2.2 < (x.1.length : Int)) then (bif decide (x.2.2.1 ≤ 200) then ((spec_l3Decs_L1 (x.1, x.2.2.2, 0)).bind fun s1 =>
        Sum.elim (fun a2 =>
          some (.inl a2)) (fun b3 =>
          (ix x.1 x.2.2.2).bind fun e4 =>
          (spec_NameOk e4.Name).bind fun r5 =>
          bif (!r5) then some (.inl 1000) else
          (ix x.1 x.2.2.2).bind fun e6 =>
          (spec_l3Vars e6.Pars).bind fun r7 =>
          bif (!r7) then some (.inl 1000) else
          (ix x.1 x.2.2.2).bind fun e8 =>
          (spec_l3Count (e8.E, (IntKind.i64.wrap (x.2.1 + 1)))).bind fun r9 =>
          ((ix x.1 x.2.2.2).bind fun e10 =>
            bif decide (0 < (e10.Where.length : Int)) then some (decide ((IntKind.i64.wrap (x.2.2.1 + r9)) ≤ 200)) else
            some false).bind fun s11 =>
          bif s11 then ((ix x.1 x.2.2.2).bind fun e12 =>
            (spec_l3Decs (e12.Where, 6, (IntKind.i64.wrap (x.2.1 + 1)))).bind fun r13 =>
            spec_l3Decs_L0 (x.1, x.2.1, (IntKind.i64.wrap ((IntKind.i64.wrap (x.2.2.1 + r9)) + r13)), (IntKind.i64.wrap (x.2.2.2 + 1)))) else
          spec_l3Decs_L0 (x.1, x.2.1, (IntKind.i64.wrap (x.2.2.1 + r9)), (IntKind.i64.wrap (x.2.2.2 + 1)))) s1) else
      some (.inr x.2.2.1)) else
    some (.inr x.2.2.1)) :=
  (RT_eq P tab (.lp s_spec_l3Decs L_spec_l3Decs_L0) x).trans (by kernel_rfl)
theorem e_spec_l3Decs_L1 (x : (List Dec) × Int × Int) : M.spec_l3Decs_L1 x = (bif decide (x.2.2 < x.2.1) then ((ix x.1 x.2.2).bind fun e1 =>
      (ix x.1 x.2.1).bind fun e2 =>
      bif decide (e1.Name = e2.Name) then some (.inl 1000) else
      spec_l3Decs_L1 (x.1, x.2.1, (IntKind.i64.wrap (x.2.2 + 1)))) else
    some (.inr ())) :=
  (RT_eq P tab (.lp s_spec_l3Decs L_spec_l3Decs_L1) x).trans (by kernel_rfl)
theorem e_spec_l3Decs (x : (List Dec) × Int × Int) : M.spec_l3Decs x = ((spec_l1In ((x.1.length : Int), 1, x.2.1)).bind fun r1 =>
    bif (!r1) then some 1000 else
    (spec_l3Decs_L0 (x.1, x.2.2, 0, 0)).bind fun s2 =>
    Sum.elim (fun a3 =>
      some a3) (fun b4 =>
      some b4) s2) :=
  (RT_eq P tab (.fn s_spec_l3Decs) x).trans (by kernel_rfl)
theorem e_spec_ProgOk_L0 (x : Int × Prog) : M.spec_ProgOk_L0 x = (bif decide (x.1 < (x.2.Datas.length : Int)) then ((spec_l3Data (x.2, x.1)).bind fun r1 =>
      bif (!r1) then some (.inl false) else
      spec_ProgOk_L0 ((IntKind.i64.wrap (x.1 + 1)), x.2)) else
    some (.inr x.2)) :=
  (RT_eq P tab (.lp s_spec_ProgOk L_spec_ProgOk_L0) x).trans (by kernel_rfl)
theorem e_spec_ProgOk (x : Prog) : M.spec_ProgOk x = ((spec_ProgOk_L0 (0, x)).bind fun s1 =>
    Sum.elim (fun a2 =>
      some a2) (fun b3 =>
      bif decide ((b3.Datas.length : Int) ≤ 5) then ((spec_l3Decs (b3.Decs, 12, 0)).bind fun r4 =>
        some (decide (r4 ≤ 200))) else
      some false) s1) :=
  (RT_eq P tab (.fn s_spec_ProgOk) x).trans (by kernel_rfl)
theorem f_spec_l5Num (x : Int) : M.spec_l5Num x = (bif decide (x < 10) then some (bsOf [(IntKind.u8.wrap (IntKind.i64.wrap (48 + x)))]) else
    (gd ((10 : Int) ≠ 0)).bind fun _ =>
    (gd ((10 : Int) ≠ 0)).bind fun _ =>
    X.meet ((spec_l5Num (IntKind.i64.wrap (x.tdiv 10))).bind fun r1 =>
      (gd (r1.size + (bsOf [(IntKind.u8.wrap (IntKind.i64.wrap (48 + (x.tmod 10))))]).size ≤ lim)).bind fun _ =>
      some (r1 ++ (bsOf [(IntKind.u8.wrap (IntKind.i64.wrap (48 + (x.tmod 10))))]))) ((spec_l5Num (IntKind.i64.wrap (x.tdiv 10))).bind fun r1 =>
      (gd (r1.size + (bsOf [(IntKind.u8.wrap (IntKind.i64.wrap (48 + (x.tmod 10))))]).size ≤ lim)).bind fun _ =>
      some (r1 ++ (bsOf [(IntKind.u8.wrap (IntKind.i64.wrap (48 + (x.tmod 10))))])))) :=
  (RT_eq P tab (.fn s_spec_l5Num) x).trans (by kernel_rfl)
theorem e_spec_l5Num (x : Int) : M.spec_l5Num x = (bif decide (x < 10) then some (bsOf [(IntKind.u8.wrap (IntKind.i64.wrap (48 + x)))]) else
    (gd ((10 : Int) ≠ 0)).bind fun _ =>
    (gd ((10 : Int) ≠ 0)).bind fun _ =>
    (spec_l5Num (IntKind.i64.wrap (x.tdiv 10))).bind fun r1 =>
    (gd (r1.size + (bsOf [(IntKind.u8.wrap (IntKind.i64.wrap (48 + (x.tmod 10))))]).size ≤ lim)).bind fun _ =>
    some (r1 ++ (bsOf [(IntKind.u8.wrap (IntKind.i64.wrap (48 + (x.tmod 10))))]))) := by
  have h := f_spec_l5Num x
  simp only [meet_self] at h
  exact h
theorem e_spec_l9Text (x : Ty × Int) : M.spec_l9Text x = (bif decide (12 < x.2) then some ((⟨⟨[]⟩⟩ : ByteArray), false) else
    bif decide (x.1.K = 1) then some ((⟨⟨[73, 110, 116]⟩⟩ : ByteArray), true) else
    bif decide (x.1.K = 2) then some ((⟨⟨[66, 111, 111, 108]⟩⟩ : ByteArray), true) else
    bif decide (x.1.K = 3) then some (x.1.S, true) else
    (bif decide (x.1.K = 5) then some (decide (0 ≤ x.1.N), x.1) else
      some (false, x.1)).bind fun s1 =>
    bif s1.1 then ((spec_l5Num s1.2.N).bind fun r2 =>
      (gd ((⟨⟨[116]⟩⟩ : ByteArray).size + r2.size ≤ lim)).bind fun _ =>
      some (((⟨⟨[116]⟩⟩ : ByteArray) ++ r2), true)) else
    (bif decide (s1.2.K = 4) then some (decide ((s1.2.L.length : Int) = 2), s1.2) else
      some (false, s1.2)).bind fun s3 =>
    bif s3.1 then ((ix s3.2.L 0).bind fun e4 =>
      (spec_l9Text (e4, (IntKind.i64.wrap (x.2 + 1)))).bind fun r5 =>
      (ix s3.2.L 1).bind fun e6 =>
      (spec_l9Text (e6, (IntKind.i64.wrap (x.2 + 1)))).bind fun r7 =>
      ((ix s3.2.L 0).bind fun e8 =>
        bif decide (e8.K = 4) then ((gd ((⟨⟨[40]⟩⟩ : ByteArray).size + r5.1.size ≤ lim)).bind fun _ =>
          (gd (((⟨⟨[40]⟩⟩ : ByteArray) ++ r5.1).size + (⟨⟨[41]⟩⟩ : ByteArray).size ≤ lim)).bind fun _ =>
          some (((⟨⟨[40]⟩⟩ : ByteArray) ++ r5.1) ++ (⟨⟨[41]⟩⟩ : ByteArray))) else
        some r5.1).bind fun s9 =>
      (gd (s9.size + (⟨⟨[32, 45, 62, 32]⟩⟩ : ByteArray).size ≤ lim)).bind fun _ =>
      (gd ((s9 ++ (⟨⟨[32, 45, 62, 32]⟩⟩ : ByteArray)).size + r7.1.size ≤ lim)).bind fun _ =>
      bif r5.2 then some (((s9 ++ (⟨⟨[32, 45, 62, 32]⟩⟩ : ByteArray)) ++ r7.1), r7.2) else
      some (((s9 ++ (⟨⟨[32, 45, 62, 32]⟩⟩ : ByteArray)) ++ r7.1), false)) else
    some ((⟨⟨[]⟩⟩ : ByteArray), false)) :=
  (RT_eq P tab (.fn s_spec_l9Text) x).trans (by kernel_rfl)
theorem e_spec_TyText (x : Ty) : M.spec_TyText x = ((spec_l9Text (x, 1)).bind fun r1 =>
    bif (!r1.2) then some (⟨⟨[]⟩⟩ : ByteArray) else
    some r1.1) :=
  (RT_eq P tab (.fn s_spec_TyText) x).trans (by kernel_rfl)
theorem e_spec_l5Data_L0 (x : ByteArray × Int × Data) : M.spec_l5Data_L0 x = (bif decide (x.2.1 < (x.2.2.Cons.length : Int)) then ((bif decide (0 < x.2.1) then ((gd (x.1.size + (⟨⟨[32, 124, 32]⟩⟩ : ByteArray).size ≤ lim)).bind fun _ =>
          some ((x.1 ++ (⟨⟨[32, 124, 32]⟩⟩ : ByteArray)), x.2.2)) else
        some (x.1, x.2.2)).bind fun s1 =>
      (ix s1.2.Cons x.2.1).bind fun e2 =>
      (gd (s1.1.size + e2.Name.size ≤ lim)).bind fun _ =>
      (spec_l5Data_L1 ((s1.1 ++ e2.Name), x.2.1, 0, s1.2)).bind fun s3 =>
      spec_l5Data_L0 (s3.1, (IntKind.i64.wrap (x.2.1 + 1)), s3.2)) else
    some x.1) :=
  (RT_eq P tab (.lp s_spec_l5Data L_spec_l5Data_L0) x).trans (by kernel_rfl)
theorem e_spec_l5Data_L1 (x : ByteArray × Int × Int × Data) : M.spec_l5Data_L1 x = ((ix x.2.2.2.Cons x.2.1).bind fun e1 =>
    bif decide (x.2.2.1 < (e1.Args.length : Int)) then ((ix x.2.2.2.Cons x.2.1).bind fun e2 =>
      (ix e2.Args x.2.2.1).bind fun e3 =>
      bif decide (e3.K = 4) then ((gd (x.1.size + (⟨⟨[32, 40]⟩⟩ : ByteArray).size ≤ lim)).bind fun _ =>
        (spec_TyText e3).bind fun r4 =>
        (gd ((x.1 ++ (⟨⟨[32, 40]⟩⟩ : ByteArray)).size + r4.size ≤ lim)).bind fun _ =>
        (gd (((x.1 ++ (⟨⟨[32, 40]⟩⟩ : ByteArray)) ++ r4).size + (⟨⟨[41]⟩⟩ : ByteArray).size ≤ lim)).bind fun _ =>
        spec_l5Data_L1 ((((x.1 ++ (⟨⟨[32, 40]⟩⟩ : ByteArray)) ++ r4) ++ (⟨⟨[41]⟩⟩ : ByteArray)), x.2.1, (IntKind.i64.wrap (x.2.2.1 + 1)), x.2.2.2)) else
      (gd (x.1.size + (⟨⟨[32]⟩⟩ : ByteArray).size ≤ lim)).bind fun _ =>
      (spec_TyText e3).bind fun r5 =>
      (gd ((x.1 ++ (⟨⟨[32]⟩⟩ : ByteArray)).size + r5.size ≤ lim)).bind fun _ =>
      spec_l5Data_L1 (((x.1 ++ (⟨⟨[32]⟩⟩ : ByteArray)) ++ r5), x.2.1, (IntKind.i64.wrap (x.2.2.1 + 1)), x.2.2.2)) else
    some (x.1, x.2.2.2)) :=
  (RT_eq P tab (.lp s_spec_l5Data L_spec_l5Data_L1) x).trans (by kernel_rfl)
theorem e_spec_l5Data (x : Data) : M.spec_l5Data x = ((gd ((⟨⟨[100, 97, 116, 97, 32]⟩⟩ : ByteArray).size + x.Name.size ≤ lim)).bind fun _ =>
    (gd (((⟨⟨[100, 97, 116, 97, 32]⟩⟩ : ByteArray) ++ x.Name).size + (⟨⟨[32, 61, 32]⟩⟩ : ByteArray).size ≤ lim)).bind fun _ =>
    (spec_l5Data_L0 ((((⟨⟨[100, 97, 116, 97, 32]⟩⟩ : ByteArray) ++ x.Name) ++ (⟨⟨[32, 61, 32]⟩⟩ : ByteArray)), 0, x)).bind fun s1 =>
    some s1) :=
  (RT_eq P tab (.fn s_spec_l5Data) x).trans (by kernel_rfl)
theorem e_spec_l5Pad_L0 (x : Int × ByteArray × Int) : M.spec_l5Pad_L0 x = (bif decide (x.2.2 < x.1) then ((gd (x.2.1.size + (⟨⟨[32]⟩⟩ : ByteArray).size ≤ lim)).bind fun _ =>
      spec_l5Pad_L0 (x.1, (x.2.1 ++ (⟨⟨[32]⟩⟩ : ByteArray)), (IntKind.i64.wrap (x.2.2 + 1)))) else
    some x.2.1) :=
  (RT_eq P tab (.lp s_spec_l5Pad L_spec_l5Pad_L0) x).trans (by kernel_rfl)
theorem e_spec_l5Pad (x : Int) : M.spec_l5Pad x = ((spec_l5Pad_L0 (x, (⟨⟨[]⟩⟩ : ByteArray), 0)).bind fun s1 =>
    some s1) :=
  (RT_eq P tab (.fn s_spec_l5Pad) x).trans (by kernel_rfl)
theorem e_spec_l5Words_L0 (x : (List ByteArray) × ByteArray × Int) : M.spec_l5Words_L0 x = (bif decide (x.2.2 < (x.1.length : Int)) then ((bif (!decide (x.2.1 = (⟨⟨[]⟩⟩ : ByteArray))) then ((gd (x.2.1.size + (⟨⟨[32]⟩⟩ : ByteArray).size ≤ lim)).bind fun _ =>
          some (x.2.1 ++ (⟨⟨[32]⟩⟩ : ByteArray))) else
        some x.2.1).bind fun s1 =>
      (ix x.1 x.2.2).bind fun e2 =>
      (gd (s1.size + e2.size ≤ lim)).bind fun _ =>
      spec_l5Words_L0 (x.1, (s1 ++ e2), (IntKind.i64.wrap (x.2.2 + 1)))) else
    some x.2.1) :=
  (RT_eq P tab (.lp s_spec_l5Words L_spec_l5Words_L0) x).trans (by kernel_rfl)
theorem e_spec_l5Words (x : ByteArray × (List ByteArray)) : M.spec_l5Words x = ((spec_l5Words_L0 (x.2, x.1, 0)).bind fun s1 =>
    some s1) :=
  (RT_eq P tab (.fn s_spec_l5Words) x).trans (by kernel_rfl)
theorem e_spec_l5Decs_L0 (x : (List Dec) × Int × ByteArray × Int) : M.spec_l5Decs_L0 x = (bif decide (x.2.2.2 < (x.1.length : Int)) then ((bif decide (0 < x.2.2.2) then ((gd (x.2.2.1.size + (⟨⟨[10]⟩⟩ : ByteArray).size ≤ lim)).bind fun _ =>
          some (x.2.2.1 ++ (⟨⟨[10]⟩⟩ : ByteArray))) else
        some x.2.2.1).bind fun s1 =>
      (ix x.1 x.2.2.2).bind fun e2 =>
      (spec_l5Dec (e2, x.2.1)).bind fun r3 =>
      (gd (s1.size + r3.size ≤ lim)).bind fun _ =>
      spec_l5Decs_L0 (x.1, x.2.1, (s1 ++ r3), (IntKind.i64.wrap (x.2.2.2 + 1)))) else
    some x.2.2.1) :=
  (RT_eq P tab (.lp s_spec_l5Decs L_spec_l5Decs_L0) x).trans (by kernel_rfl)
theorem e_spec_l5Decs (x : (List Dec) × Int) : M.spec_l5Decs x = ((spec_l5Decs_L0 (x.1, x.2, (⟨⟨[]⟩⟩ : ByteArray), 0)).bind fun s1 =>
    some s1) :=
  (RT_eq P tab (.fn s_spec_l5Decs) x).trans (by kernel_rfl)
theorem e_spec_l5Alts_L0 (x : (List Alt) × Int × ByteArray × Int) : M.spec_l5Alts_L0 x = (bif decide (x.2.2.2 < (x.1.length : Int)) then ((gd (x.2.2.1.size + (⟨⟨[10]⟩⟩ : ByteArray).size ≤ lim)).bind fun _ =>
      (ix x.1 x.2.2.2).bind fun e1 =>
      (ix x.1 x.2.2.2).bind fun e2 =>
      (ix x.1 x.2.2.2).bind fun e3 =>
      (spec_l5Pad x.2.1).bind fun r4 =>
      (gd ((x.2.2.1 ++ (⟨⟨[10]⟩⟩ : ByteArray)).size + r4.size ≤ lim)).bind fun _ =>
      (spec_l5Words (e1.Great, e2.Vars)).bind fun r5 =>
      (gd (((x.2.2.1 ++ (⟨⟨[10]⟩⟩ : ByteArray)) ++ r4).size + r5.size ≤ lim)).bind fun _ =>
      (gd ((((x.2.2.1 ++ (⟨⟨[10]⟩⟩ : ByteArray)) ++ r4) ++ r5).size + (⟨⟨[32, 45, 62, 32]⟩⟩ : ByteArray).size ≤ lim)).bind fun _ =>
      (spec_l5At (e3.E, 0, (IntKind.i64.wrap (x.2.1 + 2)))).bind fun r6 =>
      (gd (((((x.2.2.1 ++ (⟨⟨[10]⟩⟩ : ByteArray)) ++ r4) ++ r5) ++ (⟨⟨[32, 45, 62, 32]⟩⟩ : ByteArray)).size + r6.size ≤ lim)).bind fun _ =>
      spec_l5Alts_L0 (x.1, x.2.1, (((((x.2.2.1 ++ (⟨⟨[10]⟩⟩ : ByteArray)) ++ r4) ++ r5) ++ (⟨⟨[32, 45, 62, 32]⟩⟩ : ByteArray)) ++ r6), (IntKind.i64.wrap (x.2.2.2 + 1)))) else
    some x.2.2.1) :=
  (RT_eq P tab (.lp s_spec_l5Alts L_spec_l5Alts_L0) x).trans (by kernel_rfl)
theorem e_spec_l5Alts (x : (List Alt) × Int) : M.spec_l5Alts x = ((spec_l5Alts_L0 (x.1, x.2, (⟨⟨[]⟩⟩ : ByteArray), 0)).bind fun s1 =>
    some s1) :=
  (RT_eq P tab (.fn s_spec_l5Alts) x).trans (by kernel_rfl)
theorem e_spec_l5Level (x : Exp) : M.spec_l5Level x = ((bif decide (x.K = 1) then some (true, x) else
      bif decide (x.K = 2) then some (true, x) else
      some (decide (x.K = 3), x)).bind fun s1 =>
    bif s1.1 then some 5 else
    bif decide (x.K = 4) then some 4 else
    bif decide (x.K = 9) then (bif decide (s1.2.S = (⟨⟨[42]⟩⟩ : ByteArray)) then some 3 else
      bif decide (s1.2.S = (⟨⟨[43]⟩⟩ : ByteArray)) then some 2 else
      bif decide (s1.2.S = (⟨⟨[45]⟩⟩ : ByteArray)) then some 2 else
      some 1) else
    some 0) :=
  (RT_eq P tab (.fn s_spec_l5Level) x).trans (by kernel_rfl)
theorem e_spec_l5Bare (x : Exp × Int) : M.spec_l5Bare x = ((bif decide (x.1.K = 1) then some (true, x.1) else
      some (decide (x.1.K = 2), x.1)).bind fun s1 =>
    bif s1.1 then some s1.2.S else
    bif decide (x.1.K = 3) then ((spec_l5Num s1.2.N).bind fun r2 =>
      some r2) else
    bif decide (x.1.K = 4) then ((ix s1.2.L 0).bind fun e3 =>
      (ix s1.2.L 1).bind fun e4 =>
      (spec_l5At (e3, 4, x.2)).bind fun r5 =>
      (gd (r5.size + (⟨⟨[32]⟩⟩ : ByteArray).size ≤ lim)).bind fun _ =>
      (spec_l5At (e4, 5, x.2)).bind fun r6 =>
      (gd ((r5 ++ (⟨⟨[32]⟩⟩ : ByteArray)).size + r6.size ≤ lim)).bind fun _ =>
      some ((r5 ++ (⟨⟨[32]⟩⟩ : ByteArray)) ++ r6)) else
    bif decide (x.1.K = 5) then ((gd ((⟨⟨[92]⟩⟩ : ByteArray).size + s1.2.S.size ≤ lim)).bind fun _ =>
      (gd (((⟨⟨[92]⟩⟩ : ByteArray) ++ s1.2.S).size + (⟨⟨[32, 45, 62, 32]⟩⟩ : ByteArray).size ≤ lim)).bind fun _ =>
      (ix s1.2.L 0).bind fun e7 =>
      (spec_l5At (e7, 0, x.2)).bind fun r8 =>
      (gd ((((⟨⟨[92]⟩⟩ : ByteArray) ++ s1.2.S) ++ (⟨⟨[32, 45, 62, 32]⟩⟩ : ByteArray)).size + r8.size ≤ lim)).bind fun _ =>
      some ((((⟨⟨[92]⟩⟩ : ByteArray) ++ s1.2.S) ++ (⟨⟨[32, 45, 62, 32]⟩⟩ : ByteArray)) ++ r8)) else
    bif decide (x.1.K = 6) then ((ix s1.2.L 0).bind fun e9 =>
      (spec_l5Decs (s1.2.Decs, (IntKind.i64.wrap (x.2 + 2)))).bind fun r10 =>
      (gd ((⟨⟨[108, 101, 116, 10]⟩⟩ : ByteArray).size + r10.size ≤ lim)).bind fun _ =>
      (gd (((⟨⟨[108, 101, 116, 10]⟩⟩ : ByteArray) ++ r10).size + (⟨⟨[10]⟩⟩ : ByteArray).size ≤ lim)).bind fun _ =>
      (spec_l5Pad x.2).bind fun r11 =>
      (gd ((((⟨⟨[108, 101, 116, 10]⟩⟩ : ByteArray) ++ r10) ++ (⟨⟨[10]⟩⟩ : ByteArray)).size + r11.size ≤ lim)).bind fun _ =>
      (gd (((((⟨⟨[108, 101, 116, 10]⟩⟩ : ByteArray) ++ r10) ++ (⟨⟨[10]⟩⟩ : ByteArray)) ++ r11).size + (⟨⟨[105, 110, 32]⟩⟩ : ByteArray).size ≤ lim)).bind fun _ =>
      (spec_l5At (e9, 0, x.2)).bind fun r12 =>
      (gd ((((((⟨⟨[108, 101, 116, 10]⟩⟩ : ByteArray) ++ r10) ++ (⟨⟨[10]⟩⟩ : ByteArray)) ++ r11) ++ (⟨⟨[105, 110, 32]⟩⟩ : ByteArray)).size + r12.size ≤ lim)).bind fun _ =>
      some ((((((⟨⟨[108, 101, 116, 10]⟩⟩ : ByteArray) ++ r10) ++ (⟨⟨[10]⟩⟩ : ByteArray)) ++ r11) ++ (⟨⟨[105, 110, 32]⟩⟩ : ByteArray)) ++ r12)) else
    bif decide (x.1.K = 7) then ((ix s1.2.L 0).bind fun e13 =>
      (spec_l5At (e13, 1, x.2)).bind fun r14 =>
      (gd ((⟨⟨[99, 97, 115, 101, 32]⟩⟩ : ByteArray).size + r14.size ≤ lim)).bind fun _ =>
      (gd (((⟨⟨[99, 97, 115, 101, 32]⟩⟩ : ByteArray) ++ r14).size + (⟨⟨[32, 111, 102]⟩⟩ : ByteArray).size ≤ lim)).bind fun _ =>
      (spec_l5Alts (s1.2.Alts, (IntKind.i64.wrap (x.2 + 2)))).bind fun r15 =>
      (gd ((((⟨⟨[99, 97, 115, 101, 32]⟩⟩ : ByteArray) ++ r14) ++ (⟨⟨[32, 111, 102]⟩⟩ : ByteArray)).size + r15.size ≤ lim)).bind fun _ =>
      some ((((⟨⟨[99, 97, 115, 101, 32]⟩⟩ : ByteArray) ++ r14) ++ (⟨⟨[32, 111, 102]⟩⟩ : ByteArray)) ++ r15)) else
    bif decide (x.1.K = 8) then ((ix s1.2.L 0).bind fun e16 =>
      (ix s1.2.L 1).bind fun e17 =>
      (ix s1.2.L 2).bind fun e18 =>
      (spec_l5At (e16, 1, x.2)).bind fun r19 =>
      (gd ((⟨⟨[105, 102, 32]⟩⟩ : ByteArray).size + r19.size ≤ lim)).bind fun _ =>
      (gd (((⟨⟨[105, 102, 32]⟩⟩ : ByteArray) ++ r19).size + (⟨⟨[32, 116, 104, 101, 110, 32]⟩⟩ : ByteArray).size ≤ lim)).bind fun _ =>
      (spec_l5At (e17, 1, x.2)).bind fun r20 =>
      (gd ((((⟨⟨[105, 102, 32]⟩⟩ : ByteArray) ++ r19) ++ (⟨⟨[32, 116, 104, 101, 110, 32]⟩⟩ : ByteArray)).size + r20.size ≤ lim)).bind fun _ =>
      (gd (((((⟨⟨[105, 102, 32]⟩⟩ : ByteArray) ++ r19) ++ (⟨⟨[32, 116, 104, 101, 110, 32]⟩⟩ : ByteArray)) ++ r20).size + (⟨⟨[32, 101, 108, 115, 101, 32]⟩⟩ : ByteArray).size ≤ lim)).bind fun _ =>
      (spec_l5At (e18, 0, x.2)).bind fun r21 =>
      (gd ((((((⟨⟨[105, 102, 32]⟩⟩ : ByteArray) ++ r19) ++ (⟨⟨[32, 116, 104, 101, 110, 32]⟩⟩ : ByteArray)) ++ r20) ++ (⟨⟨[32, 101, 108, 115, 101, 32]⟩⟩ : ByteArray)).size + r21.size ≤ lim)).bind fun _ =>
      some ((((((⟨⟨[105, 102, 32]⟩⟩ : ByteArray) ++ r19) ++ (⟨⟨[32, 116, 104, 101, 110, 32]⟩⟩ : ByteArray)) ++ r20) ++ (⟨⟨[32, 101, 108, 115, 101, 32]⟩⟩ : ByteArray)) ++ r21)) else
    (spec_l5Level s1.2).bind fun r22 =>
    (bif decide (r22 = 1) then some (2, s1.2) else
      some (r22, s1.2)).bind fun s23 =>
    (ix s23.2.L 0).bind fun e24 =>
    (ix s23.2.L 1).bind fun e25 =>
    (spec_l5At (e24, s23.1, x.2)).bind fun r26 =>
    (gd (r26.size + (⟨⟨[32]⟩⟩ : ByteArray).size ≤ lim)).bind fun _ =>
    (gd ((r26 ++ (⟨⟨[32]⟩⟩ : ByteArray)).size + s23.2.S.size ≤ lim)).bind fun _ =>
    (gd (((r26 ++ (⟨⟨[32]⟩⟩ : ByteArray)) ++ s23.2.S).size + (⟨⟨[32]⟩⟩ : ByteArray).size ≤ lim)).bind fun _ =>
    (spec_l5At (e25, (IntKind.i64.wrap (r22 + 1)), x.2)).bind fun r27 =>
    (gd ((((r26 ++ (⟨⟨[32]⟩⟩ : ByteArray)) ++ s23.2.S) ++ (⟨⟨[32]⟩⟩ : ByteArray)).size + r27.size ≤ lim)).bind fun _ =>
    some ((((r26 ++ (⟨⟨[32]⟩⟩ : ByteArray)) ++ s23.2.S) ++ (⟨⟨[32]⟩⟩ : ByteArray)) ++ r27)) :=
  (RT_eq P tab (.fn s_spec_l5Bare) x).trans (by kernel_rfl)
theorem e_spec_l5At (x : Exp × Int × Int) : M.spec_l5At x = ((spec_l5Bare (x.1, x.2.2)).bind fun r1 =>
    (spec_l5Level x.1).bind fun r2 =>
    bif decide (r2 < x.2.1) then ((gd ((⟨⟨[40]⟩⟩ : ByteArray).size + r1.size ≤ lim)).bind fun _ =>
      (gd (((⟨⟨[40]⟩⟩ : ByteArray) ++ r1).size + (⟨⟨[41]⟩⟩ : ByteArray).size ≤ lim)).bind fun _ =>
      some (((⟨⟨[40]⟩⟩ : ByteArray) ++ r1) ++ (⟨⟨[41]⟩⟩ : ByteArray))) else
    some r1) :=
  (RT_eq P tab (.fn s_spec_l5At) x).trans (by kernel_rfl)
theorem e_spec_l5Dec (x : Dec × Int) : M.spec_l5Dec x = ((spec_l5Pad x.2).bind fun r1 =>
    (spec_l5Words (x.1.Name, x.1.Pars)).bind fun r2 =>
    (gd (r1.size + r2.size ≤ lim)).bind fun _ =>
    (gd ((r1 ++ r2).size + (⟨⟨[32, 61, 32]⟩⟩ : ByteArray).size ≤ lim)).bind fun _ =>
    (spec_l5At (x.1.E, 0, (IntKind.i64.wrap (x.2 + 2)))).bind fun r3 =>
    (gd (((r1 ++ r2) ++ (⟨⟨[32, 61, 32]⟩⟩ : ByteArray)).size + r3.size ≤ lim)).bind fun _ =>
    bif decide (0 < (x.1.Where.length : Int)) then ((gd ((((r1 ++ r2) ++ (⟨⟨[32, 61, 32]⟩⟩ : ByteArray)) ++ r3).size + (⟨⟨[10]⟩⟩ : ByteArray).size ≤ lim)).bind fun _ =>
      (spec_l5Pad (IntKind.i64.wrap (x.2 + 2))).bind fun r4 =>
      (gd (((((r1 ++ r2) ++ (⟨⟨[32, 61, 32]⟩⟩ : ByteArray)) ++ r3) ++ (⟨⟨[10]⟩⟩ : ByteArray)).size + r4.size ≤ lim)).bind fun _ =>
      (gd ((((((r1 ++ r2) ++ (⟨⟨[32, 61, 32]⟩⟩ : ByteArray)) ++ r3) ++ (⟨⟨[10]⟩⟩ : ByteArray)) ++ r4).size + (⟨⟨[119, 104, 101, 114, 101, 10]⟩⟩ : ByteArray).size ≤ lim)).bind fun _ =>
      (spec_l5Decs (x.1.Where, (IntKind.i64.wrap (x.2 + 4)))).bind fun r5 =>
      (gd (((((((r1 ++ r2) ++ (⟨⟨[32, 61, 32]⟩⟩ : ByteArray)) ++ r3) ++ (⟨⟨[10]⟩⟩ : ByteArray)) ++ r4) ++ (⟨⟨[119, 104, 101, 114, 101, 10]⟩⟩ : ByteArray)).size + r5.size ≤ lim)).bind fun _ =>
      some (((((((r1 ++ r2) ++ (⟨⟨[32, 61, 32]⟩⟩ : ByteArray)) ++ r3) ++ (⟨⟨[10]⟩⟩ : ByteArray)) ++ r4) ++ (⟨⟨[119, 104, 101, 114, 101, 10]⟩⟩ : ByteArray)) ++ r5)) else
    some (((r1 ++ r2) ++ (⟨⟨[32, 61, 32]⟩⟩ : ByteArray)) ++ r3)) :=
  (RT_eq P tab (.fn s_spec_l5Dec) x).trans (by kernel_rfl)
theorem e_spec_ProgText_L0 (x : ByteArray × Int × Prog) : M.spec_ProgText_L0 x = (bif decide (x.2.1 < (x.2.2.Datas.length : Int)) then ((ix x.2.2.Datas x.2.1).bind fun e1 =>
      (spec_l5Data e1).bind fun r2 =>
      (gd (x.1.size + r2.size ≤ lim)).bind fun _ =>
      (gd ((x.1 ++ r2).size + (⟨⟨[10]⟩⟩ : ByteArray).size ≤ lim)).bind fun _ =>
      spec_ProgText_L0 (((x.1 ++ r2) ++ (⟨⟨[10]⟩⟩ : ByteArray)), (IntKind.i64.wrap (x.2.1 + 1)), x.2.2)) else
    some (x.1, x.2.2)) :=
  (RT_eq P tab (.lp s_spec_ProgText L_spec_ProgText_L0) x).trans (by kernel_rfl)
theorem e_spec_ProgText_L1 (x : ByteArray × Int × Prog) : M.spec_ProgText_L1 x = (bif decide (x.2.1 < (x.2.2.Decs.length : Int)) then ((ix x.2.2.Decs x.2.1).bind fun e1 =>
      (spec_l5Dec (e1, 0)).bind fun r2 =>
      (gd (x.1.size + r2.size ≤ lim)).bind fun _ =>
      (gd ((x.1 ++ r2).size + (⟨⟨[10]⟩⟩ : ByteArray).size ≤ lim)).bind fun _ =>
      spec_ProgText_L1 (((x.1 ++ r2) ++ (⟨⟨[10]⟩⟩ : ByteArray)), (IntKind.i64.wrap (x.2.1 + 1)), x.2.2)) else
    some x.1) :=
  (RT_eq P tab (.lp s_spec_ProgText L_spec_ProgText_L1) x).trans (by kernel_rfl)
theorem e_spec_ProgText (x : Prog) : M.spec_ProgText x = ((spec_ProgOk x).bind fun r1 =>
    bif (!r1) then some (⟨⟨[]⟩⟩ : ByteArray) else
    (spec_ProgText_L0 ((⟨⟨[]⟩⟩ : ByteArray), 0, x)).bind fun s2 =>
    (spec_ProgText_L1 (s2.1, 0, s2.2)).bind fun s3 =>
    some s3) :=
  (RT_eq P tab (.fn s_spec_ProgText) x).trans (by kernel_rfl)
theorem e_impl_isLetter (x : Int) : M.impl_isLetter x = (bif decide (97 ≤ x) then (bif decide (x ≤ 122) then some true else
      bif decide (65 ≤ x) then some (decide (x ≤ 90)) else
      some false) else
    bif decide (65 ≤ x) then some (decide (x ≤ 90)) else
    some false) :=
  (RT_eq P tab (.fn s_impl_isLetter) x).trans (by kernel_rfl)
theorem e_impl_isDigit (x : Int) : M.impl_isDigit x = (bif decide (48 ≤ x) then some (decide (x ≤ 57)) else
    some false) :=
  (RT_eq P tab (.fn s_impl_isDigit) x).trans (by kernel_rfl)
theorem e_impl_in (x : Int × Int × Int) : M.impl_in x = (bif decide (x.2.1 ≤ x.1) then some (decide (x.1 ≤ x.2.2)) else
    some false) :=
  (RT_eq P tab (.fn s_impl_in) x).trans (by kernel_rfl)
theorem e_impl_wordLike_L0 (x : ByteArray × Int × Int) : M.impl_wordLike_L0 x = (bif decide (x.2.2 < x.2.1) then ((bx x.1 x.2.2).bind fun b1 =>
      (impl_isLetter b1).bind fun r2 =>
      bif (!r2) then (bif decide (x.2.2 = 0) then some (.inl false) else
        (bx x.1 x.2.2).bind fun b3 =>
        (impl_isDigit b3).bind fun r4 =>
        bif (!r4) then some (.inl false) else
        impl_wordLike_L0 (x.1, x.2.1, (IntKind.i64.wrap (x.2.2 + 1)))) else
      impl_wordLike_L0 (x.1, x.2.1, (IntKind.i64.wrap (x.2.2 + 1)))) else
    some (.inr ())) :=
  (RT_eq P tab (.lp s_impl_wordLike L_impl_wordLike_L0) x).trans (by kernel_rfl)
theorem e_impl_wordLike (x : ByteArray) : M.impl_wordLike x = ((impl_wordLike_L0 (x, (x.size : Int), 0)).bind fun s1 =>
    Sum.elim (fun a2 =>
      some a2) (fun b3 =>
      (impl_in ((x.size : Int), 1, 8)).bind fun r4 =>
      some r4) s1) :=
  (RT_eq P tab (.fn s_impl_wordLike) x).trans (by kernel_rfl)
theorem e_impl_GreatOk (x : ByteArray) : M.impl_GreatOk x = ((impl_wordLike x).bind fun r1 =>
    bif r1 then ((bx x 0).bind fun b2 =>
      some (decide (b2 ≤ 90))) else
    some false) :=
  (RT_eq P tab (.fn s_impl_GreatOk) x).trans (by kernel_rfl)
theorem e_impl_conTyOk (x : Ty × Int × Int) : M.impl_conTyOk x = (bif decide (6 < x.2.1) then some (false, (IntKind.i64.wrap (x.2.2 + 1))) else
    bif decide (10 < (IntKind.i64.wrap (x.2.2 + 1))) then some (false, (IntKind.i64.wrap (x.2.2 + 1))) else
    bif (!decide (x.1.N = 0)) then some (false, (IntKind.i64.wrap (x.2.2 + 1))) else
    (bif decide (x.1.K = 1) then some (true, (IntKind.i64.wrap (x.2.2 + 1)), x.1) else
      some (decide (x.1.K = 2), (IntKind.i64.wrap (x.2.2 + 1)), x.1)).bind fun s1 =>
    bif s1.1 then (bif decide (s1.2.2.S = (⟨⟨[]⟩⟩ : ByteArray)) then some (decide ((s1.2.2.L.length : Int) = 0), s1.2.1) else
      some (false, s1.2.1)) else
    bif decide (x.1.K = 3) then ((impl_GreatOk s1.2.2.S).bind fun r2 =>
      bif r2 then (bif (!decide (s1.2.2.S = (⟨⟨[73, 110, 116]⟩⟩ : ByteArray))) then (bif (!decide (s1.2.2.S = (⟨⟨[66, 111, 111, 108]⟩⟩ : ByteArray))) then some (decide ((s1.2.2.L.length : Int) = 0), s1.2.1) else
          some (false, s1.2.1)) else
        some (false, s1.2.1)) else
      some (false, s1.2.1)) else
    bif decide (x.1.K = 4) then (bif decide (s1.2.2.S = (⟨⟨[]⟩⟩ : ByteArray)) then (bif decide ((s1.2.2.L.length : Int) = 2) then ((ix s1.2.2.L 0).bind fun e3 =>
          (impl_conTyOk (e3, (IntKind.i64.wrap (x.2.1 + 1)), s1.2.1)).bind fun r4 =>
          bif r4.1 then ((ix s1.2.2.L 1).bind fun e5 =>
            (impl_conTyOk (e5, (IntKind.i64.wrap (x.2.1 + 1)), r4.2)).bind fun r6 =>
            some (r6.1, r6.2)) else
          some (false, r4.2)) else
        some (false, s1.2.1)) else
      some (false, s1.2.1)) else
    some (false, s1.2.1)) :=
  (RT_eq P tab (.fn s_impl_conTyOk) x).trans (by kernel_rfl)
theorem e_impl_conOk_L0 (x : (List Ty) × Int × Int × Con) : M.impl_conOk_L0 x = (bif decide (x.2.2.1 < x.2.1) then ((ix x.1 x.2.2.1).bind fun e1 =>
      (impl_conTyOk (e1, 1, 0)).bind fun r2 =>
      bif (!r2.1) then some (.inl false) else
      impl_conOk_L0 (x.1, x.2.1, (IntKind.i64.wrap (x.2.2.1 + 1)), x.2.2.2)) else
    some (.inr x.2.2.2)) :=
  (RT_eq P tab (.lp s_impl_conOk L_impl_conOk_L0) x).trans (by kernel_rfl)
theorem e_impl_conOk (x : Con) : M.impl_conOk x = ((impl_conOk_L0 (x.Args, (x.Args.length : Int), 0, x)).bind fun s1 =>
    Sum.elim (fun a2 =>
      some a2) (fun b3 =>
      (impl_GreatOk b3.Name).bind fun r4 =>
      bif r4 then some (decide ((b3.Args.length : Int) ≤ 4)) else
      some false) s1) :=
  (RT_eq P tab (.fn s_impl_conOk) x).trans (by kernel_rfl)
theorem e_slices_Index_string_L0 (x : (List ByteArray) × ByteArray × Int × Int) : M.slices_Index_string_L0 x = (bif decide (x.2.2.2 < x.2.2.1) then ((ix x.1 x.2.2.2).bind fun e1 =>
      bif decide (x.2.1 = e1) then some (.inl x.2.2.2) else
      slices_Index_string_L0 (x.1, x.2.1, x.2.2.1, (IntKind.i64.wrap (x.2.2.2 + 1)))) else
    some (.inr ())) :=
  (RT_eq P tab (.lp s_slices_Index_string L_slices_Index_string_L0) x).trans (by kernel_rfl)
theorem e_slices_Index_string (x : (List ByteArray) × ByteArray) : M.slices_Index_string x = ((slices_Index_string_L0 (x.1, x.2, (x.1.length : Int), 0)).bind fun s1 =>
    Sum.elim (fun a2 =>
      some a2) (fun b3 =>
      some (-1)) s1) :=
  (RT_eq P tab (.fn s_slices_Index_string) x).trans (by kernel_rfl)
theorem e_slices_Contains_string (x : (List ByteArray) × ByteArray) : M.slices_Contains_string x = ((slices_Index_string (x.1, x.2)).bind fun r1 =>
    some (decide (0 ≤ r1))) :=
  (RT_eq P tab (.fn s_slices_Contains_string) x).trans (by kernel_rfl)
theorem e_impl_unlike_L0 (x : (List ByteArray) × (List ByteArray) × Int × Int) : M.impl_unlike_L0 x = (bif decide (x.2.2.2 < x.2.2.1) then ((ix x.2.1 x.2.2.2).bind fun e1 =>
      bif (!decide (e1 = (⟨⟨[95]⟩⟩ : ByteArray))) then ((gd (0 ≤ x.2.2.2)).bind fun _ =>
        (gd (x.2.2.2 ≤ (x.1.length : Int))).bind fun _ =>
        (slices_Contains_string (((x.1.take x.2.2.2.toNat).drop 0), e1)).bind fun r2 =>
        bif r2 then some (.inl false) else
        impl_unlike_L0 (x.1, x.2.1, x.2.2.1, (IntKind.i64.wrap (x.2.2.2 + 1)))) else
      impl_unlike_L0 (x.1, x.2.1, x.2.2.1, (IntKind.i64.wrap (x.2.2.2 + 1)))) else
    some (.inr ())) :=
  (RT_eq P tab (.lp s_impl_unlike L_impl_unlike_L0) x).trans (by kernel_rfl)
theorem e_impl_unlike (x : List ByteArray) : M.impl_unlike x = ((impl_unlike_L0 (x, x, (x.length : Int), 0)).bind fun s1 =>
    Sum.elim (fun a2 =>
      some a2) (fun b3 =>
      some true) s1) :=
  (RT_eq P tab (.fn s_impl_unlike) x).trans (by kernel_rfl)
theorem e_slices_Grow_string (x : Int × (List ByteArray)) : M.slices_Grow_string x = (fun x => growB x.1 x.2) x :=
  (RT_eq P tab (.fn s_slices_Grow_string) x).trans (X.ext_eq ((fun x => growB x.1 x.2) x))
theorem e_slices_Concat_string_L0 (x : Int × (List (List ByteArray)) × Int × Int) : M.slices_Concat_string_L0 x = (bif decide (x.2.2.2 < x.2.2.1) then ((ix x.2.1 x.2.2.2).bind fun e1 =>
      bif decide ((IntKind.i64.wrap (x.1 + (e1.length : Int))) < 0) then none else
      slices_Concat_string_L0 ((IntKind.i64.wrap (x.1 + (e1.length : Int))), x.2.1, x.2.2.1, (IntKind.i64.wrap (x.2.2.2 + 1)))) else
    some x.1) :=
  (RT_eq P tab (.lp s_slices_Concat_string L_slices_Concat_string_L0) x).trans (by kernel_rfl)
theorem e_slices_Concat_string_L1 (x : (List (List ByteArray)) × Int × Int × (List ByteArray)) : M.slices_Concat_string_L1 x = (bif decide (x.2.2.1 < x.2.1) then ((ix x.1 x.2.2.1).bind fun e1 =>
      (gd (x.2.2.2.length + e1.length ≤ grow)).bind fun _ =>
      slices_Concat_string_L1 (x.1, x.2.1, (IntKind.i64.wrap (x.2.2.1 + 1)), (x.2.2.2 ++ e1))) else
    some x.2.2.2) :=
  (RT_eq P tab (.lp s_slices_Concat_string L_slices_Concat_string_L1) x).trans (by kernel_rfl)
theorem e_slices_Concat_string (x : List (List ByteArray)) : M.slices_Concat_string x = ((slices_Concat_string_L0 (0, x, (x.length : Int), 0)).bind fun s1 =>
    (slices_Grow_string (s1, [])).bind fun r2 =>
    (slices_Concat_string_L1 (x, (x.length : Int), 0, r2)).bind fun s3 =>
    some s3) :=
  (RT_eq P tab (.fn s_slices_Concat_string) x).trans (by kernel_rfl)
theorem e_impl_taken (x : ByteArray) : M.impl_taken x = (bif decide (x = (⟨⟨[73, 110, 116]⟩⟩ : ByteArray)) then some true else
    bif decide (x = (⟨⟨[66, 111, 111, 108]⟩⟩ : ByteArray)) then some true else
    bif decide (x = (⟨⟨[84, 114, 117, 101]⟩⟩ : ByteArray)) then some true else
    some (decide (x = (⟨⟨[70, 97, 108, 115, 101]⟩⟩ : ByteArray)))) :=
  (RT_eq P tab (.fn s_impl_taken) x).trans (by kernel_rfl)
theorem e_slices_IndexFunc_string_at_taken_L0 (x : (List ByteArray) × Int × Int) : M.slices_IndexFunc_string_at_taken_L0 x = (bif decide (x.2.2 < x.2.1) then ((ix x.1 x.2.2).bind fun e1 =>
      (impl_taken e1).bind fun r2 =>
      bif r2 then some (.inl x.2.2) else
      slices_IndexFunc_string_at_taken_L0 (x.1, x.2.1, (IntKind.i64.wrap (x.2.2 + 1)))) else
    some (.inr ())) :=
  (RT_eq P tab (.lp s_slices_IndexFunc_string_at_taken L_slices_IndexFunc_string_at_taken_L0) x).trans (by kernel_rfl)
theorem e_slices_IndexFunc_string_at_taken (x : List ByteArray) : M.slices_IndexFunc_string_at_taken x = ((slices_IndexFunc_string_at_taken_L0 (x, (x.length : Int), 0)).bind fun s1 =>
    Sum.elim (fun a2 =>
      some a2) (fun b3 =>
      some (-1)) s1) :=
  (RT_eq P tab (.fn s_slices_IndexFunc_string_at_taken) x).trans (by kernel_rfl)
theorem e_slices_ContainsFunc_string_at_taken (x : List ByteArray) : M.slices_ContainsFunc_string_at_taken x = ((slices_IndexFunc_string_at_taken x).bind fun r1 =>
    some (decide (0 ≤ r1))) :=
  (RT_eq P tab (.fn s_slices_ContainsFunc_string_at_taken) x).trans (by kernel_rfl)
theorem e_impl_datasOk_L0 (x : (List Data) × Int × Int × (List ByteArray) × (List ByteArray)) : M.impl_datasOk_L0 x = (bif decide (x.2.2.1 < x.2.1) then ((ix x.1 x.2.2.1).bind fun e1 =>
      (gd (x.2.2.2.1.length + [e1.Name].length ≤ grow)).bind fun _ =>
      (impl_GreatOk e1.Name).bind fun r2 =>
      bif (!r2) then some (.inl false) else
      (impl_in ((e1.Cons.length : Int), 1, 5)).bind fun r3 =>
      bif (!r3) then some (.inl false) else
      (impl_datasOk_L1 (e1.Cons, (e1.Cons.length : Int), 0, (x.2.2.2.1 ++ [e1.Name]), x.2.2.2.2)).bind fun s4 =>
      Sum.elim (fun a5 =>
        some (.inl a5)) (fun b6 =>
        impl_datasOk_L0 (x.1, x.2.1, (IntKind.i64.wrap (x.2.2.1 + 1)), b6.1, b6.2)) s4) else
    some (.inr (x.2.2.2.1, x.2.2.2.2))) :=
  (RT_eq P tab (.lp s_impl_datasOk L_impl_datasOk_L0) x).trans (by kernel_rfl)
theorem e_impl_datasOk_L1 (x : (List Con) × Int × Int × (List ByteArray) × (List ByteArray)) : M.impl_datasOk_L1 x = (bif decide (x.2.2.1 < x.2.1) then ((ix x.1 x.2.2.1).bind fun e1 =>
      (gd (x.2.2.2.2.length + [e1.Name].length ≤ grow)).bind fun _ =>
      (impl_conOk e1).bind fun r2 =>
      bif (!r2) then some (.inl false) else
      impl_datasOk_L1 (x.1, x.2.1, (IntKind.i64.wrap (x.2.2.1 + 1)), x.2.2.2.1, (x.2.2.2.2 ++ [e1.Name]))) else
    some (.inr (x.2.2.2.1, x.2.2.2.2))) :=
  (RT_eq P tab (.lp s_impl_datasOk L_impl_datasOk_L1) x).trans (by kernel_rfl)
theorem e_impl_datasOk (x : List Data) : M.impl_datasOk x = ((impl_datasOk_L0 (x, (x.length : Int), 0, [], [])).bind fun s1 =>
    Sum.elim (fun a2 =>
      some a2) (fun b3 =>
      bif decide ((x.length : Int) ≤ 5) then ((impl_unlike b3.1).bind fun r4 =>
        bif r4 then ((impl_unlike b3.2).bind fun r5 =>
          bif r5 then ((slices_Concat_string [b3.1, b3.2]).bind fun r6 =>
            (slices_ContainsFunc_string_at_taken r6).bind fun r7 =>
            some (!r7)) else
          some false) else
        some false) else
      some false) s1) :=
  (RT_eq P tab (.fn s_impl_datasOk) x).trans (by kernel_rfl)
theorem e_impl_words (x : Unit) : M.impl_words x = (some [(⟨⟨[108, 101, 116]⟩⟩ : ByteArray), (⟨⟨[105, 110]⟩⟩ : ByteArray), (⟨⟨[119, 104, 101, 114, 101]⟩⟩ : ByteArray), (⟨⟨[99, 97, 115, 101]⟩⟩ : ByteArray), (⟨⟨[111, 102]⟩⟩ : ByteArray), (⟨⟨[105, 102]⟩⟩ : ByteArray), (⟨⟨[116, 104, 101, 110]⟩⟩ : ByteArray), (⟨⟨[101, 108, 115, 101]⟩⟩ : ByteArray), (⟨⟨[100, 97, 116, 97]⟩⟩ : ByteArray)]) :=
  (RT_eq P tab (.fn s_impl_words) x).trans (by kernel_rfl)
theorem e_impl_NameOk (x : ByteArray) : M.impl_NameOk x = ((impl_wordLike x).bind fun r1 =>
    bif r1 then ((bx x 0).bind fun b2 =>
      bif decide (97 ≤ b2) then ((impl_words ()).bind fun r3 =>
        (slices_Contains_string (r3, x)).bind fun r4 =>
        some (!r4)) else
      some false) else
    some false) :=
  (RT_eq P tab (.fn s_impl_NameOk) x).trans (by kernel_rfl)
theorem e_impl_nameOr (x : ByteArray) : M.impl_nameOr x = (bif decide (x = (⟨⟨[95]⟩⟩ : ByteArray)) then some true else
    (impl_NameOk x).bind fun r1 =>
    some r1) :=
  (RT_eq P tab (.fn s_impl_nameOr) x).trans (by kernel_rfl)
theorem e_impl_namesOk_1 (x : ByteArray) : M.impl_namesOk_1 x = ((impl_nameOr x).bind fun r1 =>
    some (!r1)) :=
  (RT_eq P tab (.fn s_impl_namesOk_1) x).trans (by kernel_rfl)
theorem e_slices_IndexFunc_string_at_namesOk_1_L0 (x : (List ByteArray) × Int × Int) : M.slices_IndexFunc_string_at_namesOk_1_L0 x = (bif decide (x.2.2 < x.2.1) then ((ix x.1 x.2.2).bind fun e1 =>
      (impl_namesOk_1 e1).bind fun r2 =>
      bif r2 then some (.inl x.2.2) else
      slices_IndexFunc_string_at_namesOk_1_L0 (x.1, x.2.1, (IntKind.i64.wrap (x.2.2 + 1)))) else
    some (.inr ())) :=
  (RT_eq P tab (.lp s_slices_IndexFunc_string_at_namesOk_1 L_slices_IndexFunc_string_at_namesOk_1_L0) x).trans (by kernel_rfl)
theorem e_slices_IndexFunc_string_at_namesOk_1 (x : List ByteArray) : M.slices_IndexFunc_string_at_namesOk_1 x = ((slices_IndexFunc_string_at_namesOk_1_L0 (x, (x.length : Int), 0)).bind fun s1 =>
    Sum.elim (fun a2 =>
      some a2) (fun b3 =>
      some (-1)) s1) :=
  (RT_eq P tab (.fn s_slices_IndexFunc_string_at_namesOk_1) x).trans (by kernel_rfl)
theorem e_slices_ContainsFunc_string_at_namesOk_1 (x : List ByteArray) : M.slices_ContainsFunc_string_at_namesOk_1 x = ((slices_IndexFunc_string_at_namesOk_1 x).bind fun r1 =>
    some (decide (0 ≤ r1))) :=
  (RT_eq P tab (.fn s_slices_ContainsFunc_string_at_namesOk_1) x).trans (by kernel_rfl)
theorem e_impl_namesOk (x : List ByteArray) : M.impl_namesOk x = (bif decide ((x.length : Int) ≤ 4) then ((impl_unlike x).bind fun r1 =>
      bif r1 then ((slices_ContainsFunc_string_at_namesOk_1 x).bind fun r2 =>
        some (!r2)) else
      some false) else
    some false) :=
  (RT_eq P tab (.fn s_impl_namesOk) x).trans (by kernel_rfl)
theorem e_impl_opOk (x : ByteArray) : M.impl_opOk x = ((slices_Contains_string ([(⟨⟨[43]⟩⟩ : ByteArray), (⟨⟨[45]⟩⟩ : ByteArray), (⟨⟨[42]⟩⟩ : ByteArray), (⟨⟨[61, 61]⟩⟩ : ByteArray), (⟨⟨[60]⟩⟩ : ByteArray)], x)).bind fun r1 =>
    some r1) :=
  (RT_eq P tab (.fn s_impl_opOk) x).trans (by kernel_rfl)
theorem e_impl_expForm (x : Exp) : M.impl_expForm x = ((bif decide ((x.Decs.length : Int) = 0) then some (decide ((x.Alts.length : Int) = 0), x) else
      some (false, x)).bind fun s1 =>
    bif decide (s1.2.K = 1) then (bif s1.1 then ((impl_NameOk s1.2.S).bind fun r2 =>
        bif r2 then (bif decide (s1.2.N = 0) then some (decide ((s1.2.L.length : Int) = 0)) else
          some false) else
        some false) else
      some false) else
    bif decide (s1.2.K = 2) then (bif s1.1 then ((impl_GreatOk s1.2.S).bind fun r3 =>
        bif r3 then (bif decide (s1.2.N = 0) then some (decide ((s1.2.L.length : Int) = 0)) else
          some false) else
        some false) else
      some false) else
    bif decide (s1.2.K = 3) then (bif s1.1 then (bif decide (s1.2.S = (⟨⟨[]⟩⟩ : ByteArray)) then ((impl_in (s1.2.N, 0, 999999)).bind fun r4 =>
          bif r4 then some (decide ((s1.2.L.length : Int) = 0)) else
          some false) else
        some false) else
      some false) else
    bif decide (s1.2.K = 4) then (bif s1.1 then (bif decide (s1.2.S = (⟨⟨[]⟩⟩ : ByteArray)) then (bif decide (s1.2.N = 0) then some (decide ((s1.2.L.length : Int) = 2)) else
          some false) else
        some false) else
      some false) else
    bif decide (s1.2.K = 5) then (bif s1.1 then ((impl_nameOr s1.2.S).bind fun r5 =>
        bif r5 then (bif decide (s1.2.N = 0) then some (decide ((s1.2.L.length : Int) = 1)) else
          some false) else
        some false) else
      some false) else
    bif decide (s1.2.K = 6) then (bif decide ((s1.2.Alts.length : Int) = 0) then (bif decide (s1.2.S = (⟨⟨[]⟩⟩ : ByteArray)) then (bif decide (s1.2.N = 0) then some (decide ((s1.2.L.length : Int) = 1)) else
          some false) else
        some false) else
      some false) else
    bif decide (s1.2.K = 7) then (bif decide ((s1.2.Decs.length : Int) = 0) then ((impl_in ((s1.2.Alts.length : Int), 1, 6)).bind fun r6 =>
        bif r6 then (bif decide (s1.2.S = (⟨⟨[]⟩⟩ : ByteArray)) then (bif decide (s1.2.N = 0) then some (decide ((s1.2.L.length : Int) = 1)) else
            some false) else
          some false) else
        some false) else
      some false) else
    bif decide (s1.2.K = 8) then (bif s1.1 then (bif decide (s1.2.S = (⟨⟨[]⟩⟩ : ByteArray)) then (bif decide (s1.2.N = 0) then some (decide ((s1.2.L.length : Int) = 3)) else
          some false) else
        some false) else
      some false) else
    bif decide (s1.2.K = 9) then (bif s1.1 then ((impl_opOk s1.2.S).bind fun r7 =>
        bif r7 then (bif decide (s1.2.N = 0) then some (decide ((s1.2.L.length : Int) = 2)) else
          some false) else
        some false) else
      some false) else
    some false) :=
  (RT_eq P tab (.fn s_impl_expForm) x).trans (by kernel_rfl)
theorem e_impl_altOk (x : Alt) : M.impl_altOk x = (bif decide (x.Great = (⟨⟨[]⟩⟩ : ByteArray)) then (bif decide ((x.Vars.length : Int) = 1) then ((ix x.Vars 0).bind fun e1 =>
        (impl_nameOr e1).bind fun r2 =>
        some r2) else
      some false) else
    (impl_GreatOk x.Great).bind fun r3 =>
    bif r3 then ((impl_namesOk x.Vars).bind fun r4 =>
      some r4) else
    some false) :=
  (RT_eq P tab (.fn s_impl_altOk) x).trans (by kernel_rfl)
theorem e_impl_looker_exp_L0 (x : Int × (List Exp) × Int × Int × impl_looker × Exp) : M.impl_looker_exp_L0 x = (bif decide (x.2.2.2.1 < x.2.2.1) then ((ix x.2.1 x.2.2.2.1).bind fun e1 =>
      (impl_looker_exp (e1, (IntKind.i64.wrap (x.1 + 1)), x.2.2.2.2.1)).bind fun r2 =>
      bif (!r2.1) then some (.inl (false, r2.2)) else
      impl_looker_exp_L0 (x.1, x.2.1, x.2.2.1, (IntKind.i64.wrap (x.2.2.2.1 + 1)), r2.2, x.2.2.2.2.2)) else
    some (.inr (x.2.2.2.2.1, x.2.2.2.2.2))) :=
  (RT_eq P tab (.lp s_impl_looker_exp L_impl_looker_exp_L0) x).trans (by kernel_rfl)
theorem e_impl_looker_exp_L1 (x : Int × (List Alt) × Int × Int × impl_looker × Exp) : M.impl_looker_exp_L1 x = (bif decide (x.2.2.2.1 < x.2.2.1) then ((ix x.2.1 x.2.2.2.1).bind fun e1 =>
      (impl_altOk e1).bind fun r2 =>
      bif (!r2) then some (.inl (false, x.2.2.2.2.1)) else
      (impl_looker_exp (e1.E, (IntKind.i64.wrap (x.1 + 1)), x.2.2.2.2.1)).bind fun r3 =>
      bif (!r3.1) then some (.inl (false, r3.2)) else
      impl_looker_exp_L1 (x.1, x.2.1, x.2.2.1, (IntKind.i64.wrap (x.2.2.2.1 + 1)), r3.2, x.2.2.2.2.2)) else
    some (.inr (x.2.2.2.2.1, x.2.2.2.2.2))) :=
  (RT_eq P tab (.lp s_impl_looker_exp L_impl_looker_exp_L1) x).trans (by kernel_rfl)
theorem e_impl_looker_exp (x : Exp × Int × impl_looker) : M.impl_looker_exp x = (bif decide (200 < (IntKind.i64.wrap (x.2.2.many + 1))) then some (false, (impl_looker.mk (IntKind.i64.wrap (x.2.2.many + 1)))) else
    bif decide (12 < x.2.1) then some (false, (impl_looker.mk (IntKind.i64.wrap (x.2.2.many + 1)))) else
    (impl_expForm x.1).bind fun r1 =>
    bif (!r1) then some (false, (impl_looker.mk (IntKind.i64.wrap (x.2.2.many + 1)))) else
    (impl_looker_exp_L0 (x.2.1, x.1.L, (x.1.L.length : Int), 0, (impl_looker.mk (IntKind.i64.wrap (x.2.2.many + 1))), x.1)).bind fun s2 =>
    Sum.elim (fun a3 =>
      some (a3.1, a3.2)) (fun b4 =>
      (impl_looker_exp_L1 (x.2.1, b4.2.Alts, (b4.2.Alts.length : Int), 0, b4.1, b4.2)).bind fun s5 =>
      Sum.elim (fun a6 =>
        some (a6.1, a6.2)) (fun b7 =>
        bif (!decide (b7.2.K = 6)) then some (true, b7.1) else
        (impl_looker_decs (b7.2.Decs, (IntKind.i64.wrap (x.2.1 + 1)), 6, b7.1)).bind fun r8 =>
        some (r8.1, r8.2)) s5) s2) :=
  (RT_eq P tab (.fn s_impl_looker_exp) x).trans (by kernel_rfl)
theorem e_impl_looker_decs_L0 (x : Int × (List Dec) × Int × Int × impl_looker × (List ByteArray)) : M.impl_looker_decs_L0 x = (bif decide (x.2.2.2.1 < x.2.2.1) then ((ix x.2.1 x.2.2.2.1).bind fun e1 =>
      (gd (x.2.2.2.2.2.length + [e1.Name].length ≤ grow)).bind fun _ =>
      bif decide (12 < x.1) then some (.inl (false, x.2.2.2.2.1)) else
      (impl_NameOk e1.Name).bind fun r2 =>
      bif (!r2) then some (.inl (false, x.2.2.2.2.1)) else
      (impl_namesOk e1.Pars).bind fun r3 =>
      bif (!r3) then some (.inl (false, x.2.2.2.2.1)) else
      (impl_looker_exp (e1.E, (IntKind.i64.wrap (x.1 + 1)), x.2.2.2.2.1)).bind fun r4 =>
      bif (!r4.1) then some (.inl (false, r4.2)) else
      bif decide (0 < (e1.Where.length : Int)) then ((impl_looker_decs (e1.Where, (IntKind.i64.wrap (x.1 + 1)), 6, r4.2)).bind fun r5 =>
        bif (!r5.1) then some (.inl (false, r5.2)) else
        impl_looker_decs_L0 (x.1, x.2.1, x.2.2.1, (IntKind.i64.wrap (x.2.2.2.1 + 1)), r5.2, (x.2.2.2.2.2 ++ [e1.Name]))) else
      impl_looker_decs_L0 (x.1, x.2.1, x.2.2.1, (IntKind.i64.wrap (x.2.2.2.1 + 1)), r4.2, (x.2.2.2.2.2 ++ [e1.Name]))) else
    some (.inr (x.2.2.2.2.1, x.2.2.2.2.2))) :=
  (RT_eq P tab (.lp s_impl_looker_decs L_impl_looker_decs_L0) x).trans (by kernel_rfl)
theorem e_impl_looker_decs (x : (List Dec) × Int × Int × impl_looker) : M.impl_looker_decs x = ((impl_looker_decs_L0 (x.2.1, x.1, (x.1.length : Int), 0, x.2.2.2, [])).bind fun s1 =>
    Sum.elim (fun a2 =>
      some (a2.1, a2.2)) (fun b3 =>
      (impl_in ((x.1.length : Int), 1, x.2.2.1)).bind fun r4 =>
      bif r4 then ((impl_unlike b3.2).bind fun r5 =>
        some (r5, b3.1)) else
      some (false, b3.1)) s1) :=
  (RT_eq P tab (.fn s_impl_looker_decs) x).trans (by kernel_rfl)
theorem e_impl_ProgOk (x : Prog) : M.impl_ProgOk x = ((impl_datasOk x.Datas).bind fun r1 =>
    bif r1 then ((impl_looker_decs (x.Decs, 0, 12, (impl_looker.mk 0))).bind fun r2 =>
      some r2.1) else
    some false) :=
  (RT_eq P tab (.fn s_impl_ProgOk) x).trans (by kernel_rfl)
theorem e_strconv_Itoa (x : Int) : M.strconv_Itoa x = (fun x => itoaB x) x :=
  (RT_eq P tab (.fn s_strconv_Itoa) x).trans (X.ext_eq ((fun x => itoaB x) x))
theorem e_impl_tyText (x : Ty × Int) : M.impl_tyText x = (bif decide (12 < x.2) then some ((⟨⟨[]⟩⟩ : ByteArray), false) else
    bif decide (x.1.K = 1) then some ((⟨⟨[73, 110, 116]⟩⟩ : ByteArray), true) else
    bif decide (x.1.K = 2) then some ((⟨⟨[66, 111, 111, 108]⟩⟩ : ByteArray), true) else
    bif decide (x.1.K = 3) then some (x.1.S, true) else
    bif decide (x.1.K = 5) then ((strconv_Itoa x.1.N).bind fun r1 =>
      (gd ((⟨⟨[116]⟩⟩ : ByteArray).size + r1.size ≤ lim)).bind fun _ =>
      some (((⟨⟨[116]⟩⟩ : ByteArray) ++ r1), decide (0 ≤ x.1.N))) else
    bif (!decide (x.1.K = 4)) then some ((⟨⟨[]⟩⟩ : ByteArray), false) else
    bif (!decide ((x.1.L.length : Int) = 2)) then some ((⟨⟨[]⟩⟩ : ByteArray), false) else
    (ix x.1.L 0).bind fun e2 =>
    (impl_tyText (e2, (IntKind.i64.wrap (x.2 + 1)))).bind fun r3 =>
    (ix x.1.L 1).bind fun e4 =>
    (impl_tyText (e4, (IntKind.i64.wrap (x.2 + 1)))).bind fun r5 =>
    ((ix x.1.L 0).bind fun e6 =>
      bif decide (e6.K = 4) then ((gd ((⟨⟨[40]⟩⟩ : ByteArray).size + r3.1.size ≤ lim)).bind fun _ =>
        (gd (((⟨⟨[40]⟩⟩ : ByteArray) ++ r3.1).size + (⟨⟨[41]⟩⟩ : ByteArray).size ≤ lim)).bind fun _ =>
        some (((⟨⟨[40]⟩⟩ : ByteArray) ++ r3.1) ++ (⟨⟨[41]⟩⟩ : ByteArray))) else
      some r3.1).bind fun s7 =>
    (gd (s7.size + (⟨⟨[32, 45, 62, 32]⟩⟩ : ByteArray).size ≤ lim)).bind fun _ =>
    (gd ((s7 ++ (⟨⟨[32, 45, 62, 32]⟩⟩ : ByteArray)).size + r5.1.size ≤ lim)).bind fun _ =>
    bif r3.2 then some (((s7 ++ (⟨⟨[32, 45, 62, 32]⟩⟩ : ByteArray)) ++ r5.1), r5.2) else
    some (((s7 ++ (⟨⟨[32, 45, 62, 32]⟩⟩ : ByteArray)) ++ r5.1), false)) :=
  (RT_eq P tab (.fn s_impl_tyText) x).trans (by kernel_rfl)
theorem e_impl_TyText (x : Ty) : M.impl_TyText x = ((impl_tyText (x, 1)).bind fun r1 =>
    bif (!r1.2) then some (⟨⟨[]⟩⟩ : ByteArray) else
    some r1.1) :=
  (RT_eq P tab (.fn s_impl_TyText) x).trans (by kernel_rfl)
theorem e_strings_Join (x : (List ByteArray) × ByteArray) : M.strings_Join x = (fun x => joinS x) x :=
  (RT_eq P tab (.fn s_strings_Join) x).trans (X.ext_eq ((fun x => joinS x) x))
theorem e_impl_conText_L0 (x : (List Ty) × Int × Int × (List ByteArray)) : M.impl_conText_L0 x = (bif decide (x.2.2.1 < x.2.1) then ((ix x.1 x.2.2.1).bind fun e1 =>
      (impl_TyText e1).bind fun r2 =>
      (bif decide (e1.K = 4) then ((gd ((⟨⟨[40]⟩⟩ : ByteArray).size + r2.size ≤ lim)).bind fun _ =>
          (gd (((⟨⟨[40]⟩⟩ : ByteArray) ++ r2).size + (⟨⟨[41]⟩⟩ : ByteArray).size ≤ lim)).bind fun _ =>
          some ((((⟨⟨[40]⟩⟩ : ByteArray) ++ r2) ++ (⟨⟨[41]⟩⟩ : ByteArray)), x.2.2.2)) else
        some (r2, x.2.2.2)).bind fun s3 =>
      (gd (s3.2.length + [s3.1].length ≤ grow)).bind fun _ =>
      impl_conText_L0 (x.1, x.2.1, (IntKind.i64.wrap (x.2.2.1 + 1)), (s3.2 ++ [s3.1]))) else
    some x.2.2.2) :=
  (RT_eq P tab (.lp s_impl_conText L_impl_conText_L0) x).trans (by kernel_rfl)
theorem e_impl_conText (x : Con) : M.impl_conText x = ((impl_conText_L0 (x.Args, (x.Args.length : Int), 0, [x.Name])).bind fun s1 =>
    (strings_Join (s1, (⟨⟨[32]⟩⟩ : ByteArray))).bind fun r2 =>
    some r2) :=
  (RT_eq P tab (.fn s_impl_conText) x).trans (by kernel_rfl)
theorem e_strings_Repeat (x : ByteArray × Int) : M.strings_Repeat x = (fun x => repB x) x :=
  (RT_eq P tab (.fn s_strings_Repeat) x).trans (X.ext_eq ((fun x => repB x) x))
theorem e_impl_blanks (x : Int) : M.impl_blanks x = ((strings_Repeat ((⟨⟨[32]⟩⟩ : ByteArray), x)).bind fun r1 =>
    some r1) :=
  (RT_eq P tab (.fn s_impl_blanks) x).trans (by kernel_rfl)
theorem e_impl_binds (x : Exp) : M.impl_binds x = (bif decide (x.K = 4) then some 4 else
    bif decide (x.K = 9) then (bif decide (x.S = (⟨⟨[42]⟩⟩ : ByteArray)) then some 3 else
      bif decide (x.S = (⟨⟨[43]⟩⟩ : ByteArray)) then some 2 else
      bif decide (x.S = (⟨⟨[45]⟩⟩ : ByteArray)) then some 2 else
      some 1) else
    bif decide (x.K = 1) then some 5 else
    bif decide (x.K = 2) then some 5 else
    bif decide (x.K = 3) then some 5 else
    some 0) :=
  (RT_eq P tab (.fn s_impl_binds) x).trans (by kernel_rfl)
theorem e_impl_within (x : Exp × Int × Int) : M.impl_within x = ((impl_binds x.1).bind fun r1 =>
    bif decide (r1 < x.2.1) then ((impl_expText (x.1, x.2.2)).bind fun r2 =>
      (gd ((⟨⟨[40]⟩⟩ : ByteArray).size + r2.size ≤ lim)).bind fun _ =>
      (gd (((⟨⟨[40]⟩⟩ : ByteArray) ++ r2).size + (⟨⟨[41]⟩⟩ : ByteArray).size ≤ lim)).bind fun _ =>
      some (((⟨⟨[40]⟩⟩ : ByteArray) ++ r2) ++ (⟨⟨[41]⟩⟩ : ByteArray))) else
    (impl_expText (x.1, x.2.2)).bind fun r3 =>
    some r3) :=
  (RT_eq P tab (.fn s_impl_within) x).trans (by kernel_rfl)
theorem e_slices_Clone_string (x : List ByteArray) : M.slices_Clone_string x = (bif x.isEmpty then (X.meet (some []) ((gd (x.length ≤ grow)).bind fun _ =>
        some x)) else
    (gd (x.length ≤ grow)).bind fun _ =>
    some x) :=
  (RT_eq P tab (.fn s_slices_Clone_string) x).trans (by kernel_rfl)
theorem e_impl_altText (x : Alt × Int) : M.impl_altText x = ((slices_Clone_string x.1.Vars).bind fun r1 =>
    (bif (!decide (x.1.Great = (⟨⟨[]⟩⟩ : ByteArray))) then ((gd (([x.1.Great] : List ByteArray).length + r1.length ≤ grow)).bind fun _ =>
        some (([x.1.Great] ++ r1), x.1)) else
      some (r1, x.1)).bind fun s2 =>
    (impl_blanks x.2).bind fun r3 =>
    (strings_Join (s2.1, (⟨⟨[32]⟩⟩ : ByteArray))).bind fun r4 =>
    (gd (r3.size + r4.size ≤ lim)).bind fun _ =>
    (gd ((r3 ++ r4).size + (⟨⟨[32, 45, 62, 32]⟩⟩ : ByteArray).size ≤ lim)).bind fun _ =>
    (impl_expText (s2.2.E, (IntKind.i64.wrap (x.2 + 2)))).bind fun r5 =>
    (gd (((r3 ++ r4) ++ (⟨⟨[32, 45, 62, 32]⟩⟩ : ByteArray)).size + r5.size ≤ lim)).bind fun _ =>
    some (((r3 ++ r4) ++ (⟨⟨[32, 45, 62, 32]⟩⟩ : ByteArray)) ++ r5)) :=
  (RT_eq P tab (.fn s_impl_altText) x).trans (by kernel_rfl)
theorem e_impl_expText_L0 (x : Int × ByteArray × (List Dec) × Int × Int × Exp) : M.impl_expText_L0 x = (bif decide (x.2.2.2.2.1 < x.2.2.2.1) then ((ix x.2.2.1 x.2.2.2.2.1).bind fun e1 =>
      (impl_decText (e1, (IntKind.i64.wrap (x.1 + 2)))).bind fun r2 =>
      (gd (r2.size + (⟨⟨[10]⟩⟩ : ByteArray).size ≤ lim)).bind fun _ =>
      (gd (x.2.1.size + (r2 ++ (⟨⟨[10]⟩⟩ : ByteArray)).size ≤ lim)).bind fun _ =>
      impl_expText_L0 (x.1, (x.2.1 ++ (r2 ++ (⟨⟨[10]⟩⟩ : ByteArray))), x.2.2.1, x.2.2.2.1, (IntKind.i64.wrap (x.2.2.2.2.1 + 1)), x.2.2.2.2.2)) else
    some (x.2.1, x.2.2.2.2.2)) :=
  (RT_eq P tab (.lp s_impl_expText L_impl_expText_L0) x).trans (by kernel_rfl)
theorem e_impl_expText_L1 (x : Int × ByteArray × (List Alt) × Int × Int) : M.impl_expText_L1 x = (bif decide (x.2.2.2.2 < x.2.2.2.1) then ((ix x.2.2.1 x.2.2.2.2).bind fun e1 =>
      (impl_altText (e1, (IntKind.i64.wrap (x.1 + 2)))).bind fun r2 =>
      (gd ((⟨⟨[10]⟩⟩ : ByteArray).size + r2.size ≤ lim)).bind fun _ =>
      (gd (x.2.1.size + ((⟨⟨[10]⟩⟩ : ByteArray) ++ r2).size ≤ lim)).bind fun _ =>
      impl_expText_L1 (x.1, (x.2.1 ++ ((⟨⟨[10]⟩⟩ : ByteArray) ++ r2)), x.2.2.1, x.2.2.2.1, (IntKind.i64.wrap (x.2.2.2.2 + 1)))) else
    some x.2.1) :=
  (RT_eq P tab (.lp s_impl_expText L_impl_expText_L1) x).trans (by kernel_rfl)
theorem e_impl_expText (x : Exp × Int) : M.impl_expText x = ((bif decide (x.1.K = 1) then some (true, x.1) else
      some (decide (x.1.K = 2), x.1)).bind fun s1 =>
    bif s1.1 then some s1.2.S else
    bif decide (x.1.K = 3) then ((strconv_Itoa s1.2.N).bind fun r2 =>
      some r2) else
    bif decide (x.1.K = 4) then ((ix s1.2.L 0).bind fun e3 =>
      (ix s1.2.L 1).bind fun e4 =>
      (impl_within (e3, 4, x.2)).bind fun r5 =>
      (gd (r5.size + (⟨⟨[32]⟩⟩ : ByteArray).size ≤ lim)).bind fun _ =>
      (impl_within (e4, 5, x.2)).bind fun r6 =>
      (gd ((r5 ++ (⟨⟨[32]⟩⟩ : ByteArray)).size + r6.size ≤ lim)).bind fun _ =>
      some ((r5 ++ (⟨⟨[32]⟩⟩ : ByteArray)) ++ r6)) else
    bif decide (x.1.K = 5) then ((gd ((⟨⟨[92]⟩⟩ : ByteArray).size + s1.2.S.size ≤ lim)).bind fun _ =>
      (gd (((⟨⟨[92]⟩⟩ : ByteArray) ++ s1.2.S).size + (⟨⟨[32, 45, 62, 32]⟩⟩ : ByteArray).size ≤ lim)).bind fun _ =>
      (ix s1.2.L 0).bind fun e7 =>
      (impl_expText (e7, x.2)).bind fun r8 =>
      (gd ((((⟨⟨[92]⟩⟩ : ByteArray) ++ s1.2.S) ++ (⟨⟨[32, 45, 62, 32]⟩⟩ : ByteArray)).size + r8.size ≤ lim)).bind fun _ =>
      some ((((⟨⟨[92]⟩⟩ : ByteArray) ++ s1.2.S) ++ (⟨⟨[32, 45, 62, 32]⟩⟩ : ByteArray)) ++ r8)) else
    bif decide (x.1.K = 6) then ((impl_expText_L0 (x.2, (⟨⟨[108, 101, 116, 10]⟩⟩ : ByteArray), s1.2.Decs, (s1.2.Decs.length : Int), 0, s1.2)).bind fun s9 =>
      (ix s9.2.L 0).bind fun e10 =>
      (impl_blanks x.2).bind fun r11 =>
      (gd (s9.1.size + r11.size ≤ lim)).bind fun _ =>
      (gd ((s9.1 ++ r11).size + (⟨⟨[105, 110, 32]⟩⟩ : ByteArray).size ≤ lim)).bind fun _ =>
      (impl_expText (e10, x.2)).bind fun r12 =>
      (gd (((s9.1 ++ r11) ++ (⟨⟨[105, 110, 32]⟩⟩ : ByteArray)).size + r12.size ≤ lim)).bind fun _ =>
      some (((s9.1 ++ r11) ++ (⟨⟨[105, 110, 32]⟩⟩ : ByteArray)) ++ r12)) else
    bif decide (x.1.K = 7) then ((ix s1.2.L 0).bind fun e13 =>
      (impl_within (e13, 1, x.2)).bind fun r14 =>
      (gd ((⟨⟨[99, 97, 115, 101, 32]⟩⟩ : ByteArray).size + r14.size ≤ lim)).bind fun _ =>
      (gd (((⟨⟨[99, 97, 115, 101, 32]⟩⟩ : ByteArray) ++ r14).size + (⟨⟨[32, 111, 102]⟩⟩ : ByteArray).size ≤ lim)).bind fun _ =>
      (impl_expText_L1 (x.2, (((⟨⟨[99, 97, 115, 101, 32]⟩⟩ : ByteArray) ++ r14) ++ (⟨⟨[32, 111, 102]⟩⟩ : ByteArray)), s1.2.Alts, (s1.2.Alts.length : Int), 0)).bind fun s15 =>
      some s15) else
    bif decide (x.1.K = 8) then ((ix s1.2.L 0).bind fun e16 =>
      (ix s1.2.L 1).bind fun e17 =>
      (ix s1.2.L 2).bind fun e18 =>
      (impl_within (e16, 1, x.2)).bind fun r19 =>
      (gd ((⟨⟨[105, 102, 32]⟩⟩ : ByteArray).size + r19.size ≤ lim)).bind fun _ =>
      (gd (((⟨⟨[105, 102, 32]⟩⟩ : ByteArray) ++ r19).size + (⟨⟨[32, 116, 104, 101, 110, 32]⟩⟩ : ByteArray).size ≤ lim)).bind fun _ =>
      (impl_within (e17, 1, x.2)).bind fun r20 =>
      (gd ((((⟨⟨[105, 102, 32]⟩⟩ : ByteArray) ++ r19) ++ (⟨⟨[32, 116, 104, 101, 110, 32]⟩⟩ : ByteArray)).size + r20.size ≤ lim)).bind fun _ =>
      (gd (((((⟨⟨[105, 102, 32]⟩⟩ : ByteArray) ++ r19) ++ (⟨⟨[32, 116, 104, 101, 110, 32]⟩⟩ : ByteArray)) ++ r20).size + (⟨⟨[32, 101, 108, 115, 101, 32]⟩⟩ : ByteArray).size ≤ lim)).bind fun _ =>
      (impl_expText (e18, x.2)).bind fun r21 =>
      (gd ((((((⟨⟨[105, 102, 32]⟩⟩ : ByteArray) ++ r19) ++ (⟨⟨[32, 116, 104, 101, 110, 32]⟩⟩ : ByteArray)) ++ r20) ++ (⟨⟨[32, 101, 108, 115, 101, 32]⟩⟩ : ByteArray)).size + r21.size ≤ lim)).bind fun _ =>
      some ((((((⟨⟨[105, 102, 32]⟩⟩ : ByteArray) ++ r19) ++ (⟨⟨[32, 116, 104, 101, 110, 32]⟩⟩ : ByteArray)) ++ r20) ++ (⟨⟨[32, 101, 108, 115, 101, 32]⟩⟩ : ByteArray)) ++ r21)) else
    (impl_binds s1.2).bind fun r22 =>
    (bif decide (r22 = 1) then some (2, s1.2) else
      some (r22, s1.2)).bind fun s23 =>
    (ix s23.2.L 0).bind fun e24 =>
    (ix s23.2.L 1).bind fun e25 =>
    (impl_within (e24, s23.1, x.2)).bind fun r26 =>
    (gd (r26.size + (⟨⟨[32]⟩⟩ : ByteArray).size ≤ lim)).bind fun _ =>
    (gd ((r26 ++ (⟨⟨[32]⟩⟩ : ByteArray)).size + s23.2.S.size ≤ lim)).bind fun _ =>
    (gd (((r26 ++ (⟨⟨[32]⟩⟩ : ByteArray)) ++ s23.2.S).size + (⟨⟨[32]⟩⟩ : ByteArray).size ≤ lim)).bind fun _ =>
    (impl_within (e25, (IntKind.i64.wrap (r22 + 1)), x.2)).bind fun r27 =>
    (gd ((((r26 ++ (⟨⟨[32]⟩⟩ : ByteArray)) ++ s23.2.S) ++ (⟨⟨[32]⟩⟩ : ByteArray)).size + r27.size ≤ lim)).bind fun _ =>
    some ((((r26 ++ (⟨⟨[32]⟩⟩ : ByteArray)) ++ s23.2.S) ++ (⟨⟨[32]⟩⟩ : ByteArray)) ++ r27)) :=
  (RT_eq P tab (.fn s_impl_expText) x).trans (by kernel_rfl)
theorem e_impl_decText_L0 (x : Int × ByteArray × (List Dec) × Int × Int) : M.impl_decText_L0 x = (bif decide (x.2.2.2.2 < x.2.2.2.1) then ((ix x.2.2.1 x.2.2.2.2).bind fun e1 =>
      (impl_decText (e1, (IntKind.i64.wrap (x.1 + 4)))).bind fun r2 =>
      (gd ((⟨⟨[10]⟩⟩ : ByteArray).size + r2.size ≤ lim)).bind fun _ =>
      (gd (x.2.1.size + ((⟨⟨[10]⟩⟩ : ByteArray) ++ r2).size ≤ lim)).bind fun _ =>
      impl_decText_L0 (x.1, (x.2.1 ++ ((⟨⟨[10]⟩⟩ : ByteArray) ++ r2)), x.2.2.1, x.2.2.2.1, (IntKind.i64.wrap (x.2.2.2.2 + 1)))) else
    some x.2.1) :=
  (RT_eq P tab (.lp s_impl_decText L_impl_decText_L0) x).trans (by kernel_rfl)
theorem e_impl_decText (x : Dec × Int) : M.impl_decText x = ((X.meet ((impl_blanks x.2).bind fun r1 =>
        (gd (([x.1.Name] : List ByteArray).length + x.1.Pars.length ≤ grow)).bind fun _ =>
        (strings_Join (([x.1.Name] ++ x.1.Pars), (⟨⟨[32]⟩⟩ : ByteArray))).bind fun r2 =>
        (gd (r1.size + r2.size ≤ lim)).bind fun _ =>
        (gd ((r1 ++ r2).size + (⟨⟨[32, 61, 32]⟩⟩ : ByteArray).size ≤ lim)).bind fun _ =>
        (impl_expText (x.1.E, (IntKind.i64.wrap (x.2 + 2)))).bind fun r3 =>
        (gd (((r1 ++ r2) ++ (⟨⟨[32, 61, 32]⟩⟩ : ByteArray)).size + r3.size ≤ lim)).bind fun _ =>
        some ((((r1 ++ r2) ++ (⟨⟨[32, 61, 32]⟩⟩ : ByteArray)) ++ r3), x.1)) ((impl_blanks x.2).bind fun r1 =>
        (gd (([x.1.Name] : List ByteArray).length + x.1.Pars.length ≤ grow)).bind fun _ =>
        (strings_Join (([x.1.Name] ++ x.1.Pars), (⟨⟨[32]⟩⟩ : ByteArray))).bind fun r2 =>
        (gd (r1.size + r2.size ≤ lim)).bind fun _ =>
        (gd ((r1 ++ r2).size + (⟨⟨[32, 61, 32]⟩⟩ : ByteArray).size ≤ lim)).bind fun _ =>
        (impl_expText (x.1.E, (IntKind.i64.wrap (x.2 + 2)))).bind fun r3 =>
        (gd (((r1 ++ r2) ++ (⟨⟨[32, 61, 32]⟩⟩ : ByteArray)).size + r3.size ≤ lim)).bind fun _ =>
        some ((((r1 ++ r2) ++ (⟨⟨[32, 61, 32]⟩⟩ : ByteArray)) ++ r3), x.1))).bind fun s4 =>
    bif decide ((s4.2.Where.length : Int) = 0) then some s4.1 else
    (impl_blanks (IntKind.i64.wrap (x.2 + 2))).bind fun r5 =>
    (gd ((⟨⟨[10]⟩⟩ : ByteArray).size + r5.size ≤ lim)).bind fun _ =>
    (gd (((⟨⟨[10]⟩⟩ : ByteArray) ++ r5).size + (⟨⟨[119, 104, 101, 114, 101]⟩⟩ : ByteArray).size ≤ lim)).bind fun _ =>
    (gd (s4.1.size + (((⟨⟨[10]⟩⟩ : ByteArray) ++ r5) ++ (⟨⟨[119, 104, 101, 114, 101]⟩⟩ : ByteArray)).size ≤ lim)).bind fun _ =>
    (impl_decText_L0 (x.2, (s4.1 ++ (((⟨⟨[10]⟩⟩ : ByteArray) ++ r5) ++ (⟨⟨[119, 104, 101, 114, 101]⟩⟩ : ByteArray))), s4.2.Where, (s4.2.Where.length : Int), 0)).bind fun s6 =>
    some s6) :=
  (RT_eq P tab (.fn s_impl_decText) x).trans (by kernel_rfl)
theorem e_impl_ProgText_L0 (x : ByteArray × (List Data) × Int × Int × Prog) : M.impl_ProgText_L0 x = (bif decide (x.2.2.2.1 < x.2.2.1) then ((ix x.2.1 x.2.2.2.1).bind fun e1 =>
      (impl_ProgText_L1 (e1.Cons, (e1.Cons.length : Int), 0, x.2.2.2.2, e1, [])).bind fun s2 =>
      (gd ((⟨⟨[100, 97, 116, 97, 32]⟩⟩ : ByteArray).size + s2.2.1.Name.size ≤ lim)).bind fun _ =>
      (gd (((⟨⟨[100, 97, 116, 97, 32]⟩⟩ : ByteArray) ++ s2.2.1.Name).size + (⟨⟨[32, 61, 32]⟩⟩ : ByteArray).size ≤ lim)).bind fun _ =>
      (strings_Join (s2.2.2, (⟨⟨[32, 124, 32]⟩⟩ : ByteArray))).bind fun r3 =>
      (gd ((((⟨⟨[100, 97, 116, 97, 32]⟩⟩ : ByteArray) ++ s2.2.1.Name) ++ (⟨⟨[32, 61, 32]⟩⟩ : ByteArray)).size + r3.size ≤ lim)).bind fun _ =>
      (gd (((((⟨⟨[100, 97, 116, 97, 32]⟩⟩ : ByteArray) ++ s2.2.1.Name) ++ (⟨⟨[32, 61, 32]⟩⟩ : ByteArray)) ++ r3).size + (⟨⟨[10]⟩⟩ : ByteArray).size ≤ lim)).bind fun _ =>
      (gd (x.1.size + (((((⟨⟨[100, 97, 116, 97, 32]⟩⟩ : ByteArray) ++ s2.2.1.Name) ++ (⟨⟨[32, 61, 32]⟩⟩ : ByteArray)) ++ r3) ++ (⟨⟨[10]⟩⟩ : ByteArray)).size ≤ lim)).bind fun _ =>
      impl_ProgText_L0 ((x.1 ++ (((((⟨⟨[100, 97, 116, 97, 32]⟩⟩ : ByteArray) ++ s2.2.1.Name) ++ (⟨⟨[32, 61, 32]⟩⟩ : ByteArray)) ++ r3) ++ (⟨⟨[10]⟩⟩ : ByteArray))), x.2.1, x.2.2.1, (IntKind.i64.wrap (x.2.2.2.1 + 1)), s2.1)) else
    some (x.1, x.2.2.2.2)) :=
  (RT_eq P tab (.lp s_impl_ProgText L_impl_ProgText_L0) x).trans (by kernel_rfl)
theorem e_impl_ProgText_L1 (x : (List Con) × Int × Int × Prog × Data × (List ByteArray)) : M.impl_ProgText_L1 x = (bif decide (x.2.2.1 < x.2.1) then ((ix x.1 x.2.2.1).bind fun e1 =>
      (impl_conText e1).bind fun r2 =>
      (gd (x.2.2.2.2.2.length + [r2].length ≤ grow)).bind fun _ =>
      impl_ProgText_L1 (x.1, x.2.1, (IntKind.i64.wrap (x.2.2.1 + 1)), x.2.2.2.1, x.2.2.2.2.1, (x.2.2.2.2.2 ++ [r2]))) else
    some (x.2.2.2.1, x.2.2.2.2.1, x.2.2.2.2.2)) :=
  (RT_eq P tab (.lp s_impl_ProgText L_impl_ProgText_L1) x).trans (by kernel_rfl)
theorem e_impl_ProgText_L2 (x : ByteArray × (List Dec) × Int × Int) : M.impl_ProgText_L2 x = (bif decide (x.2.2.2 < x.2.2.1) then ((ix x.2.1 x.2.2.2).bind fun e1 =>
      (impl_decText (e1, 0)).bind fun r2 =>
      (gd (r2.size + (⟨⟨[10]⟩⟩ : ByteArray).size ≤ lim)).bind fun _ =>
      (gd (x.1.size + (r2 ++ (⟨⟨[10]⟩⟩ : ByteArray)).size ≤ lim)).bind fun _ =>
      impl_ProgText_L2 ((x.1 ++ (r2 ++ (⟨⟨[10]⟩⟩ : ByteArray))), x.2.1, x.2.2.1, (IntKind.i64.wrap (x.2.2.2 + 1)))) else
    some x.1) :=
  (RT_eq P tab (.lp s_impl_ProgText L_impl_ProgText_L2) x).trans (by kernel_rfl)
theorem e_impl_ProgText (x : Prog) : M.impl_ProgText x = ((impl_ProgOk x).bind fun r1 =>
    bif (!r1) then some (⟨⟨[]⟩⟩ : ByteArray) else
    (impl_ProgText_L0 ((⟨⟨[]⟩⟩ : ByteArray), x.Datas, (x.Datas.length : Int), 0, x)).bind fun s2 =>
    (impl_ProgText_L2 (s2.1, s2.2.Decs, (s2.2.Decs.length : Int), 0)).bind fun s3 =>
    some s3) :=
  (RT_eq P tab (.fn s_impl_ProgText) x).trans (by kernel_rfl)
theorem e_laws_eqTy (x : Ty × Ty) : M.laws_eqTy x = (bif (!decide (x.1.K = x.2.K)) then some false else
    bif (!decide (x.1.S = x.2.S)) then some false else
    bif (!decide (x.1.N = x.2.N)) then some false else
    (laws_eqTyS (x.1.L, x.2.L)).bind fun r1 =>
    bif (!r1) then some false else
    some true) :=
  (RT_eq P tab (.fn s_laws_eqTy) x).trans (by kernel_rfl)
theorem e_laws_eqTyS_L0 (x : (List Ty) × (List Ty) × Int) : M.laws_eqTyS_L0 x = (bif decide (x.2.2 < (x.1.length : Int)) then ((ix x.1 x.2.2).bind fun e1 =>
      (ix x.2.1 x.2.2).bind fun e2 =>
      (laws_eqTy (e1, e2)).bind fun r3 =>
      bif (!r3) then some (.inl false) else
      laws_eqTyS_L0 (x.1, x.2.1, (IntKind.i64.wrap (x.2.2 + 1)))) else
    some (.inr ())) :=
  (RT_eq P tab (.lp s_laws_eqTyS L_laws_eqTyS_L0) x).trans (by kernel_rfl)
theorem e_laws_eqTyS (x : (List Ty) × (List Ty)) : M.laws_eqTyS x = (bif (!decide ((x.1.length : Int) = (x.2.length : Int))) then some false else
    (laws_eqTyS_L0 (x.1, x.2, 0)).bind fun s1 =>
    Sum.elim (fun a2 =>
      some a2) (fun b3 =>
      some true) s1) :=
  (RT_eq P tab (.fn s_laws_eqTyS) x).trans (by kernel_rfl)
theorem e_laws_eqCon (x : Con × Con) : M.laws_eqCon x = (bif (!decide (x.1.Name = x.2.Name)) then some false else
    (laws_eqTyS (x.1.Args, x.2.Args)).bind fun r1 =>
    bif (!r1) then some false else
    some true) :=
  (RT_eq P tab (.fn s_laws_eqCon) x).trans (by kernel_rfl)
theorem e_laws_eqConS_L0 (x : (List Con) × (List Con) × Int) : M.laws_eqConS_L0 x = (bif decide (x.2.2 < (x.1.length : Int)) then ((ix x.1 x.2.2).bind fun e1 =>
      (ix x.2.1 x.2.2).bind fun e2 =>
      (laws_eqCon (e1, e2)).bind fun r3 =>
      bif (!r3) then some (.inl false) else
      laws_eqConS_L0 (x.1, x.2.1, (IntKind.i64.wrap (x.2.2 + 1)))) else
    some (.inr ())) :=
  (RT_eq P tab (.lp s_laws_eqConS L_laws_eqConS_L0) x).trans (by kernel_rfl)
theorem e_laws_eqConS (x : (List Con) × (List Con)) : M.laws_eqConS x = (bif (!decide ((x.1.length : Int) = (x.2.length : Int))) then some false else
    (laws_eqConS_L0 (x.1, x.2, 0)).bind fun s1 =>
    Sum.elim (fun a2 =>
      some a2) (fun b3 =>
      some true) s1) :=
  (RT_eq P tab (.fn s_laws_eqConS) x).trans (by kernel_rfl)
theorem e_laws_eqData (x : Data × Data) : M.laws_eqData x = (bif (!decide (x.1.Name = x.2.Name)) then some false else
    (laws_eqConS (x.1.Cons, x.2.Cons)).bind fun r1 =>
    bif (!r1) then some false else
    some true) :=
  (RT_eq P tab (.fn s_laws_eqData) x).trans (by kernel_rfl)
theorem e_laws_eqDataS_L0 (x : (List Data) × (List Data) × Int) : M.laws_eqDataS_L0 x = (bif decide (x.2.2 < (x.1.length : Int)) then ((ix x.1 x.2.2).bind fun e1 =>
      (ix x.2.1 x.2.2).bind fun e2 =>
      (laws_eqData (e1, e2)).bind fun r3 =>
      bif (!r3) then some (.inl false) else
      laws_eqDataS_L0 (x.1, x.2.1, (IntKind.i64.wrap (x.2.2 + 1)))) else
    some (.inr ())) :=
  (RT_eq P tab (.lp s_laws_eqDataS L_laws_eqDataS_L0) x).trans (by kernel_rfl)
theorem e_laws_eqDataS (x : (List Data) × (List Data)) : M.laws_eqDataS x = (bif (!decide ((x.1.length : Int) = (x.2.length : Int))) then some false else
    (laws_eqDataS_L0 (x.1, x.2, 0)).bind fun s1 =>
    Sum.elim (fun a2 =>
      some a2) (fun b3 =>
      some true) s1) :=
  (RT_eq P tab (.fn s_laws_eqDataS) x).trans (by kernel_rfl)
theorem e_laws_eqStringS_L0 (x : (List ByteArray) × (List ByteArray) × Int) : M.laws_eqStringS_L0 x = (bif decide (x.2.2 < (x.1.length : Int)) then ((ix x.1 x.2.2).bind fun e1 =>
      (ix x.2.1 x.2.2).bind fun e2 =>
      bif (!decide (e1 = e2)) then some (.inl false) else
      laws_eqStringS_L0 (x.1, x.2.1, (IntKind.i64.wrap (x.2.2 + 1)))) else
    some (.inr ())) :=
  (RT_eq P tab (.lp s_laws_eqStringS L_laws_eqStringS_L0) x).trans (by kernel_rfl)
theorem e_laws_eqStringS (x : (List ByteArray) × (List ByteArray)) : M.laws_eqStringS x = (bif (!decide ((x.1.length : Int) = (x.2.length : Int))) then some false else
    (laws_eqStringS_L0 (x.1, x.2, 0)).bind fun s1 =>
    Sum.elim (fun a2 =>
      some a2) (fun b3 =>
      some true) s1) :=
  (RT_eq P tab (.fn s_laws_eqStringS) x).trans (by kernel_rfl)
theorem e_laws_eqExpS_L0 (x : (List Exp) × (List Exp) × Int) : M.laws_eqExpS_L0 x = (bif decide (x.2.2 < (x.1.length : Int)) then ((ix x.1 x.2.2).bind fun e1 =>
      (ix x.2.1 x.2.2).bind fun e2 =>
      (laws_eqExp (e1, e2)).bind fun r3 =>
      bif (!r3) then some (.inl false) else
      laws_eqExpS_L0 (x.1, x.2.1, (IntKind.i64.wrap (x.2.2 + 1)))) else
    some (.inr ())) :=
  (RT_eq P tab (.lp s_laws_eqExpS L_laws_eqExpS_L0) x).trans (by kernel_rfl)
theorem e_laws_eqExpS (x : (List Exp) × (List Exp)) : M.laws_eqExpS x = (bif (!decide ((x.1.length : Int) = (x.2.length : Int))) then some false else
    (laws_eqExpS_L0 (x.1, x.2, 0)).bind fun s1 =>
    Sum.elim (fun a2 =>
      some a2) (fun b3 =>
      some true) s1) :=
  (RT_eq P tab (.fn s_laws_eqExpS) x).trans (by kernel_rfl)
theorem e_laws_eqAlt (x : Alt × Alt) : M.laws_eqAlt x = (bif (!decide (x.1.Great = x.2.Great)) then some false else
    (laws_eqStringS (x.1.Vars, x.2.Vars)).bind fun r1 =>
    bif (!r1) then some false else
    (laws_eqExp (x.1.E, x.2.E)).bind fun r2 =>
    bif (!r2) then some false else
    some true) :=
  (RT_eq P tab (.fn s_laws_eqAlt) x).trans (by kernel_rfl)
theorem e_laws_eqAltS_L0 (x : (List Alt) × (List Alt) × Int) : M.laws_eqAltS_L0 x = (bif decide (x.2.2 < (x.1.length : Int)) then ((ix x.1 x.2.2).bind fun e1 =>
      (ix x.2.1 x.2.2).bind fun e2 =>
      (laws_eqAlt (e1, e2)).bind fun r3 =>
      bif (!r3) then some (.inl false) else
      laws_eqAltS_L0 (x.1, x.2.1, (IntKind.i64.wrap (x.2.2 + 1)))) else
    some (.inr ())) :=
  (RT_eq P tab (.lp s_laws_eqAltS L_laws_eqAltS_L0) x).trans (by kernel_rfl)
theorem e_laws_eqAltS (x : (List Alt) × (List Alt)) : M.laws_eqAltS x = (bif (!decide ((x.1.length : Int) = (x.2.length : Int))) then some false else
    (laws_eqAltS_L0 (x.1, x.2, 0)).bind fun s1 =>
    Sum.elim (fun a2 =>
      some a2) (fun b3 =>
      some true) s1) :=
  (RT_eq P tab (.fn s_laws_eqAltS) x).trans (by kernel_rfl)
theorem e_laws_eqExp (x : Exp × Exp) : M.laws_eqExp x = (bif (!decide (x.1.K = x.2.K)) then some false else
    bif (!decide (x.1.S = x.2.S)) then some false else
    bif (!decide (x.1.N = x.2.N)) then some false else
    (laws_eqExpS (x.1.L, x.2.L)).bind fun r1 =>
    bif (!r1) then some false else
    (laws_eqDecS (x.1.Decs, x.2.Decs)).bind fun r2 =>
    bif (!r2) then some false else
    (laws_eqAltS (x.1.Alts, x.2.Alts)).bind fun r3 =>
    bif (!r3) then some false else
    some true) :=
  (RT_eq P tab (.fn s_laws_eqExp) x).trans (by kernel_rfl)
theorem e_laws_eqDec (x : Dec × Dec) : M.laws_eqDec x = (bif (!decide (x.1.Name = x.2.Name)) then some false else
    (laws_eqStringS (x.1.Pars, x.2.Pars)).bind fun r1 =>
    bif (!r1) then some false else
    (laws_eqExp (x.1.E, x.2.E)).bind fun r2 =>
    bif (!r2) then some false else
    (laws_eqDecS (x.1.Where, x.2.Where)).bind fun r3 =>
    bif (!r3) then some false else
    some true) :=
  (RT_eq P tab (.fn s_laws_eqDec) x).trans (by kernel_rfl)
theorem e_laws_eqDecS_L0 (x : (List Dec) × (List Dec) × Int) : M.laws_eqDecS_L0 x = (bif decide (x.2.2 < (x.1.length : Int)) then ((ix x.1 x.2.2).bind fun e1 =>
      (ix x.2.1 x.2.2).bind fun e2 =>
      (laws_eqDec (e1, e2)).bind fun r3 =>
      bif (!r3) then some (.inl false) else
      laws_eqDecS_L0 (x.1, x.2.1, (IntKind.i64.wrap (x.2.2 + 1)))) else
    some (.inr ())) :=
  (RT_eq P tab (.lp s_laws_eqDecS L_laws_eqDecS_L0) x).trans (by kernel_rfl)
theorem e_laws_eqDecS (x : (List Dec) × (List Dec)) : M.laws_eqDecS x = (bif (!decide ((x.1.length : Int) = (x.2.length : Int))) then some false else
    (laws_eqDecS_L0 (x.1, x.2, 0)).bind fun s1 =>
    Sum.elim (fun a2 =>
      some a2) (fun b3 =>
      some true) s1) :=
  (RT_eq P tab (.fn s_laws_eqDecS) x).trans (by kernel_rfl)
theorem e_laws_eqProg (x : Prog × Prog) : M.laws_eqProg x = ((laws_eqDataS (x.1.Datas, x.2.Datas)).bind fun r1 =>
    bif (!r1) then some false else
    (laws_eqDecS (x.1.Decs, x.2.Decs)).bind fun r2 =>
    bif (!r2) then some false else
    some true) :=
  (RT_eq P tab (.fn s_laws_eqProg) x).trans (by kernel_rfl)
theorem e_laws_FnExactProgText (x : Prog) : M.laws_FnExactProgText x = ((laws_szProg (x, 1048576)).bind fun r1 =>
    bif decide (r1 < 0) then some true else
    (laws_toProg x).bind fun r2 =>
    (spec_ProgText r2).bind fun r3 =>
    (laws_toProg x).bind fun r4 =>
    (impl_ProgText r4).bind fun r5 =>
    bif (!decide (r5 = r3)) then some false else
    (laws_toProg x).bind fun r6 =>
    (laws_eqProg (r4, r6)).bind fun r7 =>
    bif (!r7) then some false else
    some true) :=
  (RT_eq P tab (.fn s_laws_FnExactProgText) x).trans (by kernel_rfl)
end M
end W
