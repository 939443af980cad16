import Derived.Test.YtnhdobhfebiggaaETy
namespace W
open Go HL
set_option linter.unusedVariables false
namespace M
def slices_Equal_string_L0 (x : ((List ByteArray) × (List ByteArray) × Int)) : Option (Sum Bool Unit) :=
    (if x.2.2 < ((x.1.length : Nat) : Int) then (ix x.1 x.2.2 >>= fun e7 =>
    (ix x.2.1 x.2.2 >>= fun e8 =>
    (if e7 = e8 then slices_Equal_string_L0 (x.1, x.2.1, (IntKind.i64.wrap (x.2.2 + 1))) else
    some (.inl false)))) else
    some (.inr ()))
  partial_fixpoint
def slices_Equal_string (x : ((List ByteArray) × (List ByteArray))) : Option Bool :=
    (if ((x.1.length : Nat) : Int) = ((x.2.length : Nat) : Int) then (slices_Equal_string_L0 (x.1, x.2, 0) >>= fun s10 =>
    (match s10 with
    | .inl r11 => some r11
    | .inr v12 => some true)) else
    some false)
mutual
def impl_SameExp (x : (Exp × Exp)) : Option Bool :=
    (if x.1.K = x.2.K then (if x.1.S = x.2.S then (if x.1.N = x.2.N then (slices_EqualFunc_impl_Exp_at_SameExp (x.1.L, x.2.L) >>= fun r4 =>
    (if r4 = true then (slices_EqualFunc_impl_Dec_at_sameDec (x.1.Decs, x.2.Decs) >>= fun r6 =>
    (if r6 = true then (slices_EqualFunc_impl_Alt_at_sameAlt (x.1.Alts, x.2.Alts) >>= fun r8 =>
    some r8) else
    some false)) else
    some false)) else
    some false) else
    some false) else
    some false)
  partial_fixpoint
def impl_sameAlt (x : (Alt × Alt)) : Option Bool :=
    (if x.1.Great = x.2.Great then (slices_Equal_string (x.1.Vars, x.2.Vars) >>= fun r2 =>
    (if r2 = true then (impl_SameExp (x.1.E, x.2.E) >>= fun r4 =>
    some r4) else
    some false)) else
    some false)
  partial_fixpoint
def impl_sameDec (x : (Dec × Dec)) : Option Bool :=
    (if x.1.Name = x.2.Name then (slices_Equal_string (x.1.Pars, x.2.Pars) >>= fun r2 =>
    (if r2 = true then (impl_SameExp (x.1.E, x.2.E) >>= fun r4 =>
    (if r4 = true then (slices_EqualFunc_impl_Dec_at_sameDec (x.1.Where, x.2.Where) >>= fun r6 =>
    some r6) else
    some false)) else
    some false)) else
    some false)
  partial_fixpoint
def slices_EqualFunc_impl_Alt_at_sameAlt (x : ((List Alt) × (List Alt))) : Option Bool :=
    (if ((x.1.length : Nat) : Int) = ((x.2.length : Nat) : Int) then (slices_EqualFunc_impl_Alt_at_sameAlt_L0 (x.2, x.1, 0) >>= fun s12 =>
    (match s12 with
    | .inl r13 => some r13
    | .inr v14 => some true)) else
    some false)
  partial_fixpoint
def slices_EqualFunc_impl_Alt_at_sameAlt_L0 (x : ((List Alt) × (List Alt) × Int)) : Option (Sum Bool Unit) :=
    (if x.2.2 < ((x.2.1.length : Nat) : Int) then (ix x.2.1 x.2.2 >>= fun e8 =>
    (ix x.1 x.2.2 >>= fun e9 =>
    (impl_sameAlt (e8, e9) >>= fun r10 =>
    (if r10 = true then slices_EqualFunc_impl_Alt_at_sameAlt_L0 (x.1, x.2.1, (IntKind.i64.wrap (x.2.2 + 1))) else
    some (.inl false))))) else
    some (.inr ()))
  partial_fixpoint
def slices_EqualFunc_impl_Dec_at_sameDec (x : ((List Dec) × (List Dec))) : Option Bool :=
    (if ((x.1.length : Nat) : Int) = ((x.2.length : Nat) : Int) then (slices_EqualFunc_impl_Dec_at_sameDec_L0 (x.2, x.1, 0) >>= fun s12 =>
    (match s12 with
    | .inl r13 => some r13
    | .inr v14 => some true)) else
    some false)
  partial_fixpoint
def slices_EqualFunc_impl_Dec_at_sameDec_L0 (x : ((List Dec) × (List Dec) × Int)) : Option (Sum Bool Unit) :=
    (if x.2.2 < ((x.2.1.length : Nat) : Int) then (ix x.2.1 x.2.2 >>= fun e8 =>
    (ix x.1 x.2.2 >>= fun e9 =>
    (impl_sameDec (e8, e9) >>= fun r10 =>
    (if r10 = true then slices_EqualFunc_impl_Dec_at_sameDec_L0 (x.1, x.2.1, (IntKind.i64.wrap (x.2.2 + 1))) else
    some (.inl false))))) else
    some (.inr ()))
  partial_fixpoint
def slices_EqualFunc_impl_Exp_at_SameExp (x : ((List Exp) × (List Exp))) : Option Bool :=
    (if ((x.1.length : Nat) : Int) = ((x.2.length : Nat) : Int) then (slices_EqualFunc_impl_Exp_at_SameExp_L0 (x.2, x.1, 0) >>= fun s12 =>
    (match s12 with
    | .inl r13 => some r13
    | .inr v14 => some true)) else
    some false)
  partial_fixpoint
def slices_EqualFunc_impl_Exp_at_SameExp_L0 (x : ((List Exp) × (List Exp) × Int)) : Option (Sum Bool Unit) :=
    (if x.2.2 < ((x.2.1.length : Nat) : Int) then (ix x.2.1 x.2.2 >>= fun e8 =>
    (ix x.1 x.2.2 >>= fun e9 =>
    (impl_SameExp (e8, e9) >>= fun r10 =>
    (if r10 = true then slices_EqualFunc_impl_Exp_at_SameExp_L0 (x.1, x.2.1, (IntKind.i64.wrap (x.2.2 + 1))) else
    some (.inl false))))) else
    some (.inr ()))
  partial_fixpoint
end
mutual
def impl_SameTy (x : (Ty × Ty)) : Option Bool :=
    (if x.1.K = x.2.K then (if x.1.S = x.2.S then (if x.1.N = x.2.N then (slices_EqualFunc_impl_Ty_at_SameTy (x.1.L, x.2.L) >>= fun r4 =>
    some r4) else
    some false) else
    some false) else
    some false)
  partial_fixpoint
def slices_EqualFunc_impl_Ty_at_SameTy (x : ((List Ty) × (List Ty))) : Option Bool :=
    (if ((x.1.length : Nat) : Int) = ((x.2.length : Nat) : Int) then (slices_EqualFunc_impl_Ty_at_SameTy_L0 (x.2, x.1, 0) >>= fun s12 =>
    (match s12 with
    | .inl r13 => some r13
    | .inr v14 => some true)) else
    some false)
  partial_fixpoint
def slices_EqualFunc_impl_Ty_at_SameTy_L0 (x : ((List Ty) × (List Ty) × Int)) : Option (Sum Bool Unit) :=
    (if x.2.2 < ((x.2.1.length : Nat) : Int) then (ix x.2.1 x.2.2 >>= fun e8 =>
    (ix x.1 x.2.2 >>= fun e9 =>
    (impl_SameTy (e8, e9) >>= fun r10 =>
    (if r10 = true then slices_EqualFunc_impl_Ty_at_SameTy_L0 (x.1, x.2.1, (IntKind.i64.wrap (x.2.2 + 1))) else
    some (.inl false))))) else
    some (.inr ()))
  partial_fixpoint
end
def impl_sameCon (x : (Con × Con)) : Option Bool :=
    (if x.1.Name = x.2.Name then (slices_EqualFunc_impl_Ty_at_SameTy (x.1.Args, x.2.Args) >>= fun r2 =>
    some r2) else
    some false)
def slices_EqualFunc_impl_Con_at_sameCon_L0 (x : ((List Con) × (List Con) × Int)) : Option (Sum Bool Unit) :=
    (if x.2.2 < ((x.2.1.length : Nat) : Int) then (ix x.2.1 x.2.2 >>= fun e8 =>
    (ix x.1 x.2.2 >>= fun e9 =>
    (impl_sameCon (e8, e9) >>= fun r10 =>
    (if r10 = true then slices_EqualFunc_impl_Con_at_sameCon_L0 (x.1, x.2.1, (IntKind.i64.wrap (x.2.2 + 1))) else
    some (.inl false))))) else
    some (.inr ()))
  partial_fixpoint
def slices_EqualFunc_impl_Con_at_sameCon (x : ((List Con) × (List Con))) : Option Bool :=
    (if ((x.1.length : Nat) : Int) = ((x.2.length : Nat) : Int) then (slices_EqualFunc_impl_Con_at_sameCon_L0 (x.2, x.1, 0) >>= fun s12 =>
    (match s12 with
    | .inl r13 => some r13
    | .inr v14 => some true)) else
    some false)
def impl_sameData (x : (Data × Data)) : Option Bool :=
    (if x.1.Name = x.2.Name then (slices_EqualFunc_impl_Con_at_sameCon (x.1.Cons, x.2.Cons) >>= fun r2 =>
    some r2) else
    some false)
def slices_EqualFunc_impl_Data_at_sameData_L0 (x : ((List Data) × (List Data) × Int)) : Option (Sum Bool Unit) :=
    (if x.2.2 < ((x.2.1.length : Nat) : Int) then (ix x.2.1 x.2.2 >>= fun e8 =>
    (ix x.1 x.2.2 >>= fun e9 =>
    (impl_sameData (e8, e9) >>= fun r10 =>
    (if r10 = true then slices_EqualFunc_impl_Data_at_sameData_L0 (x.1, x.2.1, (IntKind.i64.wrap (x.2.2 + 1))) else
    some (.inl false))))) else
    some (.inr ()))
  partial_fixpoint
def slices_EqualFunc_impl_Data_at_sameData (x : ((List Data) × (List Data))) : Option Bool :=
    (if ((x.1.length : Nat) : Int) = ((x.2.length : Nat) : Int) then (slices_EqualFunc_impl_Data_at_sameData_L0 (x.2, x.1, 0) >>= fun s12 =>
    (match s12 with
    | .inl r13 => some r13
    | .inr v14 => some true)) else
    some false)
def impl_SameProg (x : (Prog × Prog)) : Option Bool :=
    (slices_EqualFunc_impl_Data_at_sameData (x.1.Datas, x.2.Datas) >>= fun r1 =>
    (if r1 = true then (slices_EqualFunc_impl_Dec_at_sameDec (x.1.Decs, x.2.Decs) >>= fun r3 =>
    some r3) else
    some false))
mutual
def laws_szTy (x : (Ty × Int)) : Option Int :=
    (if (IntKind.i64.wrap (x.2 - ((x.1.S.size : Nat) : Int))) < 0 then some (-1) else
    (laws_szTyS (x.1.L, (IntKind.i64.wrap (x.2 - ((x.1.S.size : Nat) : Int)))) >>= fun r2 =>
    (if r2 < 0 then some (-1) else
    some r2)))
  partial_fixpoint
def laws_szTyS (x : ((List Ty) × Int)) : Option Int :=
    (if (IntKind.i64.wrap (x.2 - ((x.1.length : Nat) : Int))) < 0 then some (-1) else
    (laws_szTyS_L0 (x.1, (IntKind.i64.wrap (x.2 - ((x.1.length : Nat) : Int))), 0) >>= fun s10 =>
    (match s10 with
    | .inl r11 => some r11
    | .inr v12 => some v12)))
  partial_fixpoint
def laws_szTyS_L0 (x : ((List Ty) × Int × Int)) : Option (Sum Int Int) :=
    (if x.2.2 < ((x.1.length : Nat) : Int) then (ix x.1 x.2.2 >>= fun e7 =>
    (laws_szTy (e7, x.2.1) >>= fun r8 =>
    (if r8 < 0 then some (.inl (-1)) else
    laws_szTyS_L0 (x.1, r8, (IntKind.i64.wrap (x.2.2 + 1)))))) else
    some (.inr x.2.1))
  partial_fixpoint
end
def laws_szCon (x : (Con × Int)) : Option Int :=
    (if (IntKind.i64.wrap (x.2 - ((x.1.Name.size : Nat) : Int))) < 0 then some (-1) else
    (laws_szTyS (x.1.Args, (IntKind.i64.wrap (x.2 - ((x.1.Name.size : Nat) : Int)))) >>= fun r2 =>
    (if r2 < 0 then some (-1) else
    some r2)))
def laws_szConS_L0 (x : ((List Con) × Int × Int)) : Option (Sum Int Int) :=
    (if x.2.2 < ((x.1.length : Nat) : Int) then (ix x.1 x.2.2 >>= fun e7 =>
    (laws_szCon (e7, x.2.1) >>= fun r8 =>
    (if r8 < 0 then some (.inl (-1)) else
    laws_szConS_L0 (x.1, r8, (IntKind.i64.wrap (x.2.2 + 1)))))) else
    some (.inr x.2.1))
  partial_fixpoint
def laws_szConS (x : ((List Con) × Int)) : Option Int :=
    (if (IntKind.i64.wrap (x.2 - ((x.1.length : Nat) : Int))) < 0 then some (-1) else
    (laws_szConS_L0 (x.1, (IntKind.i64.wrap (x.2 - ((x.1.length : Nat) : Int))), 0) >>= fun s10 =>
    (match s10 with
    | .inl r11 => some r11
    | .inr v12 => some v12)))
def laws_szData (x : (Data × Int)) : Option Int :=
    (if (IntKind.i64.wrap (x.2 - ((x.1.Name.size : Nat) : Int))) < 0 then some (-1) else
    (laws_szConS (x.1.Cons, (IntKind.i64.wrap (x.2 - ((x.1.Name.size : Nat) : Int)))) >>= fun r2 =>
    (if r2 < 0 then some (-1) else
    some r2)))
def laws_szDataS_L0 (x : ((List Data) × Int × Int)) : Option (Sum Int Int) :=
    (if x.2.2 < ((x.1.length : Nat) : Int) then (ix x.1 x.2.2 >>= fun e7 =>
    (laws_szData (e7, x.2.1) >>= fun r8 =>
    (if r8 < 0 then some (.inl (-1)) else
    laws_szDataS_L0 (x.1, r8, (IntKind.i64.wrap (x.2.2 + 1)))))) else
    some (.inr x.2.1))
  partial_fixpoint
def laws_szDataS (x : ((List Data) × Int)) : Option Int :=
    (if (IntKind.i64.wrap (x.2 - ((x.1.length : Nat) : Int))) < 0 then some (-1) else
    (laws_szDataS_L0 (x.1, (IntKind.i64.wrap (x.2 - ((x.1.length : Nat) : Int))), 0) >>= fun s10 =>
    (match s10 with
    | .inl r11 => some r11
    | .inr v12 => some v12)))
def laws_szStringS_L0 (x : ((List ByteArray) × Int × Int)) : Option (Sum Int Int) :=
    (if x.2.2 < ((x.1.length : Nat) : Int) then (ix x.1 x.2.2 >>= fun e6 =>
    (if (IntKind.i64.wrap (x.2.1 - ((e6.size : Nat) : Int))) < 0 then some (.inl (-1)) else
    laws_szStringS_L0 (x.1, (IntKind.i64.wrap (x.2.1 - ((e6.size : Nat) : Int))), (IntKind.i64.wrap (x.2.2 + 1))))) else
    some (.inr x.2.1))
  partial_fixpoint
def laws_szStringS (x : ((List ByteArray) × Int)) : Option Int :=
    (if (IntKind.i64.wrap (x.2 - ((x.1.length : Nat) : Int))) < 0 then some (-1) else
    (laws_szStringS_L0 (x.1, (IntKind.i64.wrap (x.2 - ((x.1.length : Nat) : Int))), 0) >>= fun s8 =>
    (match s8 with
    | .inl r9 => some r9
    | .inr v10 => some v10)))
mutual
def laws_szAlt (x : (Alt × Int)) : Option Int :=
    (if (IntKind.i64.wrap (x.2 - ((x.1.Great.size : Nat) : Int))) < 0 then some (-1) else
    (laws_szStringS (x.1.Vars, (IntKind.i64.wrap (x.2 - ((x.1.Great.size : Nat) : Int)))) >>= fun r2 =>
    (if r2 < 0 then some (-1) else
    (laws_szExp (x.1.E, r2) >>= fun r4 =>
    (if r4 < 0 then some (-1) else
    some r4)))))
  partial_fixpoint
def laws_szAltS (x : ((List Alt) × Int)) : Option Int :=
    (if (IntKind.i64.wrap (x.2 - ((x.1.length : Nat) : Int))) < 0 then some (-1) else
    (laws_szAltS_L0 (x.1, (IntKind.i64.wrap (x.2 - ((x.1.length : Nat) : Int))), 0) >>= fun s10 =>
    (match s10 with
    | .inl r11 => some r11
    | .inr v12 => some v12)))
  partial_fixpoint
def laws_szAltS_L0 (x : ((List Alt) × Int × Int)) : Option (Sum Int Int) :=
    (if x.2.2 < ((x.1.length : Nat) : Int) then (ix x.1 x.2.2 >>= fun e7 =>
    (laws_szAlt (e7, x.2.1) >>= fun r8 =>
    (if r8 < 0 then some (.inl (-1)) else
    laws_szAltS_L0 (x.1, r8, (IntKind.i64.wrap (x.2.2 + 1)))))) else
    some (.inr x.2.1))
  partial_fixpoint
def laws_szDec (x : (Dec × Int)) : Option Int :=
    (if (IntKind.i64.wrap (x.2 - ((x.1.Name.size : Nat) : Int))) < 0 then some (-1) else
    (laws_szStringS (x.1.Pars, (IntKind.i64.wrap (x.2 - ((x.1.Name.size : Nat) : Int)))) >>= fun r2 =>
    (if r2 < 0 then some (-1) else
    (laws_szExp (x.1.E, r2) >>= fun r4 =>
    (if r4 < 0 then some (-1) else
    (laws_szDecS (x.1.Where, r4) >>= fun r6 =>
    (if r6 < 0 then some (-1) else
    some r6)))))))
  partial_fixpoint
def laws_szDecS (x : ((List Dec) × Int)) : Option Int :=
    (if (IntKind.i64.wrap (x.2 - ((x.1.length : Nat) : Int))) < 0 then some (-1) else
    (laws_szDecS_L0 (x.1, (IntKind.i64.wrap (x.2 - ((x.1.length : Nat) : Int))), 0) >>= fun s10 =>
    (match s10 with
    | .inl r11 => some r11
    | .inr v12 => some v12)))
  partial_fixpoint
def laws_szDecS_L0 (x : ((List Dec) × Int × Int)) : Option (Sum Int Int) :=
    (if x.2.2 < ((x.1.length : Nat) : Int) then (ix x.1 x.2.2 >>= fun e7 =>
    (laws_szDec (e7, x.2.1) >>= fun r8 =>
    (if r8 < 0 then some (.inl (-1)) else
    laws_szDecS_L0 (x.1, r8, (IntKind.i64.wrap (x.2.2 + 1)))))) else
    some (.inr x.2.1))
  partial_fixpoint
def laws_szExp (x : (Exp × Int)) : Option Int :=
    (if (IntKind.i64.wrap (x.2 - ((x.1.S.size : Nat) : Int))) < 0 then some (-1) else
    (laws_szExpS (x.1.L, (IntKind.i64.wrap (x.2 - ((x.1.S.size : Nat) : Int)))) >>= fun r2 =>
    (if r2 < 0 then some (-1) else
    (laws_szDecS (x.1.Decs, r2) >>= fun r4 =>
    (if r4 < 0 then some (-1) else
    (laws_szAltS (x.1.Alts, r4) >>= fun r6 =>
    (if r6 < 0 then some (-1) else
    some r6)))))))
  partial_fixpoint
def laws_szExpS (x : ((List Exp) × Int)) : Option Int :=
    (if (IntKind.i64.wrap (x.2 - ((x.1.length : Nat) : Int))) < 0 then some (-1) else
    (laws_szExpS_L0 (x.1, (IntKind.i64.wrap (x.2 - ((x.1.length : Nat) : Int))), 0) >>= fun s10 =>
    (match s10 with
    | .inl r11 => some r11
    | .inr v12 => some v12)))
  partial_fixpoint
def laws_szExpS_L0 (x : ((List Exp) × Int × Int)) : Option (Sum Int Int) :=
    (if x.2.2 < ((x.1.length : Nat) : Int) then (ix x.1 x.2.2 >>= fun e7 =>
    (laws_szExp (e7, x.2.1) >>= fun r8 =>
    (if r8 < 0 then some (.inl (-1)) else
    laws_szExpS_L0 (x.1, r8, (IntKind.i64.wrap (x.2.2 + 1)))))) else
    some (.inr x.2.1))
  partial_fixpoint
end
def laws_szProg (x : (Prog × Int)) : Option Int :=
    (laws_szDataS (x.1.Datas, x.2) >>= fun r1 =>
    (if r1 < 0 then some (-1) else
    (laws_szDecS (x.1.Decs, r1) >>= fun r3 =>
    (if r3 < 0 then some (-1) else
    some r3))))
mutual
def laws_eqTy (x : (Ty × Ty)) : Option Bool :=
    (if x.1.K = x.2.K then (if x.1.S = x.2.S then (if x.1.N = x.2.N then (laws_eqTyS (x.1.L, x.2.L) >>= fun r4 =>
    (if r4 = true then some true else
    some false)) else
    some false) else
    some false) else
    some false)
  partial_fixpoint
def laws_eqTyS (x : ((List Ty) × (List Ty))) : Option Bool :=
    (if ((x.1.length : Nat) : Int) = ((x.2.length : Nat) : Int) then (laws_eqTyS_L0 (x.1, x.2, 0) >>= fun s12 =>
    (match s12 with
    | .inl r13 => some r13
    | .inr v14 => some true)) else
    some false)
  partial_fixpoint
def laws_eqTyS_L0 (x : ((List Ty) × (List Ty) × Int)) : Option (Sum Bool Unit) :=
    (if x.2.2 < ((x.1.length : Nat) : Int) then (ix x.1 x.2.2 >>= fun e8 =>
    (ix x.2.1 x.2.2 >>= fun e9 =>
    (laws_eqTy (e8, e9) >>= fun r10 =>
    (if r10 = true then laws_eqTyS_L0 (x.1, x.2.1, (IntKind.i64.wrap (x.2.2 + 1))) else
    some (.inl false))))) else
    some (.inr ()))
  partial_fixpoint
end
def laws_eqCon (x : (Con × Con)) : Option Bool :=
    (if x.1.Name = x.2.Name then (laws_eqTyS (x.1.Args, x.2.Args) >>= fun r2 =>
    (if r2 = true then some true else
    some false)) else
    some false)
def laws_eqConS_L0 (x : ((List Con) × (List Con) × Int)) : Option (Sum Bool Unit) :=
    (if x.2.2 < ((x.1.length : Nat) : Int) then (ix x.1 x.2.2 >>= fun e8 =>
    (ix x.2.1 x.2.2 >>= fun e9 =>
    (laws_eqCon (e8, e9) >>= fun r10 =>
    (if r10 = true then laws_eqConS_L0 (x.1, x.2.1, (IntKind.i64.wrap (x.2.2 + 1))) else
    some (.inl false))))) else
    some (.inr ()))
  partial_fixpoint
def laws_eqConS (x : ((List Con) × (List Con))) : Option Bool :=
    (if ((x.1.length : Nat) : Int) = ((x.2.length : Nat) : Int) then (laws_eqConS_L0 (x.1, x.2, 0) >>= fun s12 =>
    (match s12 with
    | .inl r13 => some r13
    | .inr v14 => some true)) else
    some false)
def laws_eqData (x : (Data × Data)) : Option Bool :=
    (if x.1.Name = x.2.Name then (laws_eqConS (x.1.Cons, x.2.Cons) >>= fun r2 =>
    (if r2 = true then some true else
    some false)) else
    some false)
def laws_eqDataS_L0 (x : ((List Data) × (List Data) × Int)) : Option (Sum Bool Unit) :=
    (if x.2.2 < ((x.1.length : Nat) : Int) then (ix x.1 x.2.2 >>= fun e8 =>
    (ix x.2.1 x.2.2 >>= fun e9 =>
    (laws_eqData (e8, e9) >>= fun r10 =>
    (if r10 = true then laws_eqDataS_L0 (x.1, x.2.1, (IntKind.i64.wrap (x.2.2 + 1))) else
    some (.inl false))))) else
    some (.inr ()))
  partial_fixpoint
def laws_eqDataS (x : ((List Data) × (List Data))) : Option Bool :=
    (if ((x.1.length : Nat) : Int) = ((x.2.length : Nat) : Int) then (laws_eqDataS_L0 (x.1, x.2, 0) >>= fun s12 =>
    (match s12 with
    | .inl r13 => some r13
    | .inr v14 => some true)) else
    some false)
def laws_eqStringS_L0 (x : ((List ByteArray) × (List ByteArray) × Int)) : Option (Sum Bool Unit) :=
    (if x.2.2 < ((x.1.length : Nat) : Int) then (ix x.1 x.2.2 >>= fun e7 =>
    (ix x.2.1 x.2.2 >>= fun e8 =>
    (if e7 = e8 then laws_eqStringS_L0 (x.1, x.2.1, (IntKind.i64.wrap (x.2.2 + 1))) else
    some (.inl false)))) else
    some (.inr ()))
  partial_fixpoint
def laws_eqStringS (x : ((List ByteArray) × (List ByteArray))) : Option Bool :=
    (if ((x.1.length : Nat) : Int) = ((x.2.length : Nat) : Int) then (laws_eqStringS_L0 (x.1, x.2, 0) >>= fun s10 =>
    (match s10 with
    | .inl r11 => some r11
    | .inr v12 => some true)) else
    some false)
mutual
def laws_eqAlt (x : (Alt × Alt)) : Option Bool :=
    (if x.1.Great = x.2.Great then (laws_eqStringS (x.1.Vars, x.2.Vars) >>= fun r2 =>
    (if r2 = true then (laws_eqExp (x.1.E, x.2.E) >>= fun r4 =>
    (if r4 = true then some true else
    some false)) else
    some false)) else
    some false)
  partial_fixpoint
def laws_eqAltS (x : ((List Alt) × (List Alt))) : Option Bool :=
    (if ((x.1.length : Nat) : Int) = ((x.2.length : Nat) : Int) then (laws_eqAltS_L0 (x.1, x.2, 0) >>= fun s12 =>
    (match s12 with
    | .inl r13 => some r13
    | .inr v14 => some true)) else
    some false)
  partial_fixpoint
def laws_eqAltS_L0 (x : ((List Alt) × (List Alt) × Int)) : Option (Sum Bool Unit) :=
    (if x.2.2 < ((x.1.length : Nat) : Int) then (ix x.1 x.2.2 >>= fun e8 =>
    (ix x.2.1 x.2.2 >>= fun e9 =>
    (laws_eqAlt (e8, e9) >>= fun r10 =>
    (if r10 = true then laws_eqAltS_L0 (x.1, x.2.1, (IntKind.i64.wrap (x.2.2 + 1))) else
    some (.inl false))))) else
    some (.inr ()))
  partial_fixpoint
def laws_eqDec (x : (Dec × Dec)) : Option Bool :=
    (if x.1.Name = x.2.Name then (laws_eqStringS (x.1.Pars, x.2.Pars) >>= fun r2 =>
    (if r2 = true then (laws_eqExp (x.1.E, x.2.E) >>= fun r4 =>
    (if r4 = true then (laws_eqDecS (x.1.Where, x.2.Where) >>= fun r6 =>
    (if r6 = true then some true else
    some false)) else
    some false)) else
    some false)) else
    some false)
  partial_fixpoint
def laws_eqDecS (x : ((List Dec) × (List Dec))) : Option Bool :=
    (if ((x.1.length : Nat) : Int) = ((x.2.length : Nat) : Int) then (laws_eqDecS_L0 (x.1, x.2, 0) >>= fun s12 =>
    (match s12 with
    | .inl r13 => some r13
    | .inr v14 => some true)) else
    some false)
  partial_fixpoint
def laws_eqDecS_L0 (x : ((List Dec) × (List Dec) × Int)) : Option (Sum Bool Unit) :=
    (if x.2.2 < ((x.1.length : Nat) : Int) then (ix x.1 x.2.2 >>= fun e8 =>
    (ix x.2.1 x.2.2 >>= fun e9 =>
    (laws_eqDec (e8, e9) >>= fun r10 =>
    (if r10 = true then laws_eqDecS_L0 (x.1, x.2.1, (IntKind.i64.wrap (x.2.2 + 1))) else
    some (.inl false))))) else
    some (.inr ()))
  partial_fixpoint
def laws_eqExp (x : (Exp × Exp)) : Option Bool :=
    (if x.1.K = x.2.K then (if x.1.S = x.2.S then (if x.1.N = x.2.N then (laws_eqExpS (x.1.L, x.2.L) >>= fun r4 =>
    (if r4 = true then (laws_eqDecS (x.1.Decs, x.2.Decs) >>= fun r6 =>
    (if r6 = true then (laws_eqAltS (x.1.Alts, x.2.Alts) >>= fun r8 =>
    (if r8 = true then some true else
    some false)) else
    some false)) else
    some false)) else
    some false) else
    some false) else
    some false)
  partial_fixpoint
def laws_eqExpS (x : ((List Exp) × (List Exp))) : Option Bool :=
    (if ((x.1.length : Nat) : Int) = ((x.2.length : Nat) : Int) then (laws_eqExpS_L0 (x.1, x.2, 0) >>= fun s12 =>
    (match s12 with
    | .inl r13 => some r13
    | .inr v14 => some true)) else
    some false)
  partial_fixpoint
def laws_eqExpS_L0 (x : ((List Exp) × (List Exp) × Int)) : Option (Sum Bool Unit) :=
    (if x.2.2 < ((x.1.length : Nat) : Int) then (ix x.1 x.2.2 >>= fun e8 =>
    (ix x.2.1 x.2.2 >>= fun e9 =>
    (laws_eqExp (e8, e9) >>= fun r10 =>
    (if r10 = true then laws_eqExpS_L0 (x.1, x.2.1, (IntKind.i64.wrap (x.2.2 + 1))) else
    some (.inl false))))) else
    some (.inr ()))
  partial_fixpoint
end
def laws_eqProg (x : (Prog × Prog)) : Option Bool :=
    (laws_eqDataS (x.1.Datas, x.2.Datas) >>= fun r1 =>
    (if r1 = true then (laws_eqDecS (x.1.Decs, x.2.Decs) >>= fun r3 =>
    (if r3 = true then some true else
    some false)) else
    some false))
mutual
def spec_SameTy (x : (Ty × Ty)) : Option Bool :=
    (if x.1.K = x.2.K then (if x.1.S = x.2.S then (if x.1.N = x.2.N then (if ((x.1.L.length : Nat) : Int) = ((x.2.L.length : Nat) : Int) then (spec_SameTy_L0 (x.1, x.2, 0) >>= fun s15 =>
    (match s15 with
    | .inl r16 => some r16
    | .inr v17 => some true)) else
    some false) else
    some false) else
    some false) else
    some false)
  partial_fixpoint
def spec_SameTy_L0 (x : (Ty × Ty × Int)) : Option (Sum Bool Unit) :=
    (if x.2.2 < ((x.1.L.length : Nat) : Int) then (ix x.1.L x.2.2 >>= fun e11 =>
    (ix x.2.1.L x.2.2 >>= fun e12 =>
    (spec_SameTy (e11, e12) >>= fun r13 =>
    (if r13 = true then spec_SameTy_L0 (x.1, x.2.1, (IntKind.i64.wrap (x.2.2 + 1))) else
    some (.inl false))))) else
    some (.inr ()))
  partial_fixpoint
end
def spec_l3SameData_L1 (x : (Int × Data × Data × Int)) : Option (Sum Bool Unit) :=
    (ix x.2.1.Cons x.1 >>= fun e37 =>
    (if x.2.2.2 < ((e37.Args.length : Nat) : Int) then (ix e37.Args x.2.2.2 >>= fun e39 =>
    (ix x.2.2.1.Cons x.1 >>= fun e40 =>
    (ix e40.Args x.2.2.2 >>= fun e41 =>
    (spec_SameTy (e39, e41) >>= fun r42 =>
    (if r42 = true then spec_l3SameData_L1 (x.1, x.2.1, x.2.2.1, (IntKind.i64.wrap (x.2.2.2 + 1))) else
    some (.inl false)))))) else
    some (.inr ())))
  partial_fixpoint
def spec_l3SameData_L0 (x : (Data × Data × Int)) : Option (Sum Bool Unit) :=
    (if x.2.2 < ((x.1.Cons.length : Nat) : Int) then (ix x.1.Cons x.2.2 >>= fun e26 =>
    (ix x.2.1.Cons x.2.2 >>= fun e27 =>
    (if e26.Name = e27.Name then (if ((e26.Args.length : Nat) : Int) = ((e27.Args.length : Nat) : Int) then (spec_l3SameData_L1 (x.2.2, x.1, x.2.1, 0) >>= fun s44 =>
    (match s44 with
    | .inl r45 => some (.inl r45)
    | .inr v46 => spec_l3SameData_L0 (x.1, x.2.1, (IntKind.i64.wrap (x.2.2 + 1))))) else
    some (.inl false)) else
    some (.inl false)))) else
    some (.inr ()))
  partial_fixpoint
def spec_l3SameData (x : (Data × Data)) : Option Bool :=
    (if x.1.Name = x.2.Name then (if ((x.1.Cons.length : Nat) : Int) = ((x.2.Cons.length : Nat) : Int) then (spec_l3SameData_L0 (x.1, x.2, 0) >>= fun s47 =>
    (match s47 with
    | .inl r48 => some r48
    | .inr v49 => some true)) else
    some false) else
    some false)
def spec_l3SameTexts_L0 (x : ((List ByteArray) × (List ByteArray) × Int)) : Option (Sum Bool Unit) :=
    (if x.2.2 < ((x.1.length : Nat) : Int) then (ix x.1 x.2.2 >>= fun e7 =>
    (ix x.2.1 x.2.2 >>= fun e8 =>
    (if e7 = e8 then spec_l3SameTexts_L0 (x.1, x.2.1, (IntKind.i64.wrap (x.2.2 + 1))) else
    some (.inl false)))) else
    some (.inr ()))
  partial_fixpoint
def spec_l3SameTexts (x : ((List ByteArray) × (List ByteArray))) : Option Bool :=
    (if ((x.1.length : Nat) : Int) = ((x.2.length : Nat) : Int) then (spec_l3SameTexts_L0 (x.1, x.2, 0) >>= fun s10 =>
    (match s10 with
    | .inl r11 => some r11
    | .inr v12 => some true)) else
    some false)
mutual
def spec_SameExp (x : (Exp × Exp)) : Option Bool :=
    (if x.1.K = x.2.K then (if x.1.S = x.2.S then (if x.1.N = x.2.N then (if ((x.1.L.length : Nat) : Int) = ((x.2.L.length : Nat) : Int) then (if ((x.1.Alts.length : Nat) : Int) = ((x.2.Alts.length : Nat) : Int) then (spec_l3SameDecs (x.1.Decs, x.2.Decs) >>= fun r6 =>
    (if r6 = true then (spec_SameExp_L0 (x.1, x.2, 0) >>= fun s18 =>
    (match s18 with
    | .inl r19 => some r19
    | .inr v20 => (spec_SameExp_L1 (x.1, x.2, 0) >>= fun s37 =>
    (match s37 with
    | .inl r38 => some r38
    | .inr v39 => some true)))) else
    some false)) else
    some false) else
    some false) else
    some false) else
    some false) else
    some false)
  partial_fixpoint
def spec_SameExp_L0 (x : (Exp × Exp × Int)) : Option (Sum Bool Unit) :=
    (if x.2.2 < ((x.1.L.length : Nat) : Int) then (ix x.1.L x.2.2 >>= fun e14 =>
    (ix x.2.1.L x.2.2 >>= fun e15 =>
    (spec_SameExp (e14, e15) >>= fun r16 =>
    (if r16 = true then spec_SameExp_L0 (x.1, x.2.1, (IntKind.i64.wrap (x.2.2 + 1))) else
    some (.inl false))))) else
    some (.inr ()))
  partial_fixpoint
def spec_SameExp_L1 (x : (Exp × Exp × Int)) : Option (Sum Bool Unit) :=
    (if x.2.2 < ((x.1.Alts.length : Nat) : Int) then (ix x.1.Alts x.2.2 >>= fun e30 =>
    (ix x.2.1.Alts x.2.2 >>= fun e31 =>
    (if e30.Great = e31.Great then (spec_l3SameTexts (e30.Vars, e31.Vars) >>= fun r33 =>
    (if r33 = true then (spec_SameExp (e30.E, e31.E) >>= fun r35 =>
    (if r35 = true then spec_SameExp_L1 (x.1, x.2.1, (IntKind.i64.wrap (x.2.2 + 1))) else
    some (.inl false))) else
    some (.inl false))) else
    some (.inl false)))) else
    some (.inr ()))
  partial_fixpoint
def spec_l3SameDecs (x : ((List Dec) × (List Dec))) : Option Bool :=
    (if ((x.1.length : Nat) : Int) = ((x.2.length : Nat) : Int) then (spec_l3SameDecs_L0 (x.1, x.2, 0) >>= fun s22 =>
    (match s22 with
    | .inl r23 => some r23
    | .inr v24 => some true)) else
    some false)
  partial_fixpoint
def spec_l3SameDecs_L0 (x : ((List Dec) × (List Dec) × Int)) : Option (Sum Bool Unit) :=
    (if x.2.2 < ((x.1.length : Nat) : Int) then (ix x.1 x.2.2 >>= fun e13 =>
    (ix x.2.1 x.2.2 >>= fun e14 =>
    (if e13.Name = e14.Name then (spec_l3SameTexts (e13.Pars, e14.Pars) >>= fun r16 =>
    (if r16 = true then (spec_SameExp (e13.E, e14.E) >>= fun r18 =>
    (if r18 = true then (spec_l3SameDecs (e13.Where, e14.Where) >>= fun r20 =>
    (if r20 = true then spec_l3SameDecs_L0 (x.1, x.2.1, (IntKind.i64.wrap (x.2.2 + 1))) else
    some (.inl false))) else
    some (.inl false))) else
    some (.inl false))) else
    some (.inl false)))) else
    some (.inr ()))
  partial_fixpoint
end
def spec_SameProg_L0 (x : (Prog × Prog × Int)) : Option (Sum Bool Unit) :=
    (if x.2.2 < ((x.1.Datas.length : Nat) : Int) then (ix x.1.Datas x.2.2 >>= fun e8 =>
    (ix x.2.1.Datas x.2.2 >>= fun e9 =>
    (spec_l3SameData (e8, e9) >>= fun r10 =>
    (if r10 = true then spec_SameProg_L0 (x.1, x.2.1, (IntKind.i64.wrap (x.2.2 + 1))) else
    some (.inl false))))) else
    some (.inr ()))
  partial_fixpoint
def spec_SameProg (x : (Prog × Prog)) : Option Bool :=
    (if ((x.1.Datas.length : Nat) : Int) = ((x.2.Datas.length : Nat) : Int) then (spec_SameProg_L0 (x.1, x.2, 0) >>= fun s12 =>
    (match s12 with
    | .inl r13 => some r13
    | .inr v14 => (spec_l3SameDecs (x.1.Decs, x.2.Decs) >>= fun r15 =>
    some r15))) else
    some false)
mutual
def laws_toTy (x : Ty) : Option Ty :=
    (laws_toTyS x.L >>= fun r1 =>
    some (Ty.mk x.K x.S x.N r1))
  partial_fixpoint
def laws_toTyS (x : (List Ty)) : Option (List Ty) :=
    (gd ((0 : Int) ≤ ((x.length : Nat) : Int)) >>= fun u2 =>
    (gd (((x.length : Nat) : Int) ≤ (1099511627776 : Int)) >>= fun u4 =>
    (laws_toTyS_L0 (x, 0, (List.replicate x.length (Ty.mk 0 (⟨⟨[]⟩⟩ : ByteArray) 0 []))) >>= fun s27 =>
    some s27)))
  partial_fixpoint
def laws_toTyS_L0 (x : ((List Ty) × Int × (List Ty))) : Option (List Ty) :=
    (if x.2.1 < ((x.1.length : Nat) : Int) then (ix x.1 x.2.1 >>= fun e20 =>
    (laws_toTy e20 >>= fun r21 =>
    (gd ((0 : Int) ≤ x.2.1) >>= fun u23 =>
    (gd (x.2.1 < ((x.2.2.length : Nat) : Int)) >>= fun u25 =>
    laws_toTyS_L0 (x.1, (IntKind.i64.wrap (x.2.1 + 1)), (x.2.2.set x.2.1.toNat r21)))))) else
    some x.2.2)
  partial_fixpoint
end
def laws_toCon (x : Con) : Option Con :=
    (laws_toTyS x.Args >>= fun r1 =>
    some (Con.mk x.Name r1))
def laws_toConS_L0 (x : ((List Con) × Int × (List Con))) : Option (List Con) :=
    (if x.2.1 < ((x.1.length : Nat) : Int) then (ix x.1 x.2.1 >>= fun e20 =>
    (laws_toCon e20 >>= fun r21 =>
    (gd ((0 : Int) ≤ x.2.1) >>= fun u23 =>
    (gd (x.2.1 < ((x.2.2.length : Nat) : Int)) >>= fun u25 =>
    laws_toConS_L0 (x.1, (IntKind.i64.wrap (x.2.1 + 1)), (x.2.2.set x.2.1.toNat r21)))))) else
    some x.2.2)
  partial_fixpoint
def laws_toConS (x : (List Con)) : Option (List Con) :=
    (gd ((0 : Int) ≤ ((x.length : Nat) : Int)) >>= fun u2 =>
    (gd (((x.length : Nat) : Int) ≤ (1099511627776 : Int)) >>= fun u4 =>
    (laws_toConS_L0 (x, 0, (List.replicate x.length (Con.mk (⟨⟨[]⟩⟩ : ByteArray) []))) >>= fun s27 =>
    some s27)))
def laws_toData (x : Data) : Option Data :=
    (laws_toConS x.Cons >>= fun r1 =>
    some (Data.mk x.Name r1))
def laws_toDataS_L0 (x : ((List Data) × Int × (List Data))) : Option (List Data) :=
    (if x.2.1 < ((x.1.length : Nat) : Int) then (ix x.1 x.2.1 >>= fun e20 =>
    (laws_toData e20 >>= fun r21 =>
    (gd ((0 : Int) ≤ x.2.1) >>= fun u23 =>
    (gd (x.2.1 < ((x.2.2.length : Nat) : Int)) >>= fun u25 =>
    laws_toDataS_L0 (x.1, (IntKind.i64.wrap (x.2.1 + 1)), (x.2.2.set x.2.1.toNat r21)))))) else
    some x.2.2)
  partial_fixpoint
def laws_toDataS (x : (List Data)) : Option (List Data) :=
    (gd ((0 : Int) ≤ ((x.length : Nat) : Int)) >>= fun u2 =>
    (gd (((x.length : Nat) : Int) ≤ (1099511627776 : Int)) >>= fun u4 =>
    (laws_toDataS_L0 (x, 0, (List.replicate x.length (Data.mk (⟨⟨[]⟩⟩ : ByteArray) []))) >>= fun s27 =>
    some s27)))
def laws_toStringS_L0 (x : ((List ByteArray) × Int × (List ByteArray))) : Option (List ByteArray) :=
    (if x.2.1 < ((x.1.length : Nat) : Int) then (ix x.1 x.2.1 >>= fun e18 =>
    (gd ((0 : Int) ≤ x.2.1) >>= fun u20 =>
    (gd (x.2.1 < ((x.2.2.length : Nat) : Int)) >>= fun u22 =>
    laws_toStringS_L0 (x.1, (IntKind.i64.wrap (x.2.1 + 1)), (x.2.2.set x.2.1.toNat e18))))) else
    some x.2.2)
  partial_fixpoint
def laws_toStringS (x : (List ByteArray)) : Option (List ByteArray) :=
    (gd ((0 : Int) ≤ ((x.length : Nat) : Int)) >>= fun u2 =>
    (gd (((x.length : Nat) : Int) ≤ (1099511627776 : Int)) >>= fun u4 =>
    (laws_toStringS_L0 (x, 0, (List.replicate x.length (⟨⟨[]⟩⟩ : ByteArray))) >>= fun s24 =>
    some s24)))
mutual
def laws_toAlt (x : Alt) : Option Alt :=
    (laws_toStringS x.Vars >>= fun r1 =>
    (laws_toExp x.E >>= fun r2 =>
    some (Alt.mk x.Great r1 r2)))
  partial_fixpoint
def laws_toAltS (x : (List Alt)) : Option (List Alt) :=
    (gd ((0 : Int) ≤ ((x.length : Nat) : Int)) >>= fun u2 =>
    (gd (((x.length : Nat) : Int) ≤ (1099511627776 : Int)) >>= fun u4 =>
    (laws_toAltS_L0 (x, 0, (List.replicate x.length (Alt.mk (⟨⟨[]⟩⟩ : ByteArray) [] (Exp.mk 0 (⟨⟨[]⟩⟩ : ByteArray) 0 [] [] [])))) >>= fun s27 =>
    some s27)))
  partial_fixpoint
def laws_toAltS_L0 (x : ((List Alt) × Int × (List Alt))) : Option (List Alt) :=
    (if x.2.1 < ((x.1.length : Nat) : Int) then (ix x.1 x.2.1 >>= fun e20 =>
    (laws_toAlt e20 >>= fun r21 =>
    (gd ((0 : Int) ≤ x.2.1) >>= fun u23 =>
    (gd (x.2.1 < ((x.2.2.length : Nat) : Int)) >>= fun u25 =>
    laws_toAltS_L0 (x.1, (IntKind.i64.wrap (x.2.1 + 1)), (x.2.2.set x.2.1.toNat r21)))))) else
    some x.2.2)
  partial_fixpoint
def laws_toDec (x : Dec) : Option Dec :=
    (laws_toStringS x.Pars >>= fun r1 =>
    (laws_toExp x.E >>= fun r2 =>
    (laws_toDecS x.Where >>= fun r3 =>
    some (Dec.mk x.Name r1 r2 r3))))
  partial_fixpoint
def laws_toDecS (x : (List Dec)) : Option (List Dec) :=
    (gd ((0 : Int) ≤ ((x.length : Nat) : Int)) >>= fun u2 =>
    (gd (((x.length : Nat) : Int) ≤ (1099511627776 : Int)) >>= fun u4 =>
    (laws_toDecS_L0 (x, 0, (List.replicate x.length (Dec.mk (⟨⟨[]⟩⟩ : ByteArray) [] (Exp.mk 0 (⟨⟨[]⟩⟩ : ByteArray) 0 [] [] []) []))) >>= fun s27 =>
    some s27)))
  partial_fixpoint
def laws_toDecS_L0 (x : ((List Dec) × Int × (List Dec))) : Option (List Dec) :=
    (if x.2.1 < ((x.1.length : Nat) : Int) then (ix x.1 x.2.1 >>= fun e20 =>
    (laws_toDec e20 >>= fun r21 =>
    (gd ((0 : Int) ≤ x.2.1) >>= fun u23 =>
    (gd (x.2.1 < ((x.2.2.length : Nat) : Int)) >>= fun u25 =>
    laws_toDecS_L0 (x.1, (IntKind.i64.wrap (x.2.1 + 1)), (x.2.2.set x.2.1.toNat r21)))))) else
    some x.2.2)
  partial_fixpoint
def laws_toExp (x : Exp) : Option Exp :=
    (laws_toExpS x.L >>= fun r1 =>
    (laws_toDecS x.Decs >>= fun r2 =>
    (laws_toAltS x.Alts >>= fun r3 =>
    some (Exp.mk x.K x.S x.N r1 r2 r3))))
  partial_fixpoint
def laws_toExpS (x : (List Exp)) : Option (List Exp) :=
    (gd ((0 : Int) ≤ ((x.length : Nat) : Int)) >>= fun u2 =>
    (gd (((x.length : Nat) : Int) ≤ (1099511627776 : Int)) >>= fun u4 =>
    (laws_toExpS_L0 (x, 0, (List.replicate x.length (Exp.mk 0 (⟨⟨[]⟩⟩ : ByteArray) 0 [] [] []))) >>= fun s27 =>
    some s27)))
  partial_fixpoint
def laws_toExpS_L0 (x : ((List Exp) × Int × (List Exp))) : Option (List Exp) :=
    (if x.2.1 < ((x.1.length : Nat) : Int) then (ix x.1 x.2.1 >>= fun e20 =>
    (laws_toExp e20 >>= fun r21 =>
    (gd ((0 : Int) ≤ x.2.1) >>= fun u23 =>
    (gd (x.2.1 < ((x.2.2.length : Nat) : Int)) >>= fun u25 =>
    laws_toExpS_L0 (x.1, (IntKind.i64.wrap (x.2.1 + 1)), (x.2.2.set x.2.1.toNat r21)))))) else
    some x.2.2)
  partial_fixpoint
end
def laws_toProg (x : Prog) : Option Prog :=
    (laws_toDataS x.Datas >>= fun r1 =>
    (laws_toDecS x.Decs >>= fun r2 =>
    some (Prog.mk r1 r2)))
def laws_FnExactSameProg (x : (Prog × Prog)) : Option Bool :=
    (laws_szProg (x.1, 1048576) >>= fun r1 =>
    (if r1 < 0 then some true else
    (laws_szProg (x.2, r1) >>= fun r3 =>
    (if r3 < 0 then some true else
    (laws_toProg x.1 >>= fun r5 =>
    (laws_toProg x.2 >>= fun r6 =>
    (spec_SameProg (r5, r6) >>= fun r7 =>
    (laws_toProg x.1 >>= fun r8 =>
    (laws_toProg x.2 >>= fun r9 =>
    (impl_SameProg (r8, r9) >>= fun r10 =>
    (if (r10 == r7) = true then (laws_toProg x.1 >>= fun r12 =>
    (laws_eqProg (r8, r12) >>= fun r13 =>
    (if r13 = true then (laws_toProg x.2 >>= fun r15 =>
    (laws_eqProg (r9, r15) >>= fun r16 =>
    (if r16 = true then some true else
    some false))) else
    some false))) else
    some false)))))))))))
end M
end W
