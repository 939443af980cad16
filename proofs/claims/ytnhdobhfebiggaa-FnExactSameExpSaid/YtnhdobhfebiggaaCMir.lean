import Derived.Test.YtnhdobhfebiggaaCTy
namespace W
open Go HL
set_option linter.unusedVariables false
namespace M
def slices_Equal_string_L0 (x : ((List ByteArray) × (List ByteArray) × Int)) : Option (Sum Bool Unit) :=
    (if x.2.2 < ((x.1.length : Nat) : Int) then (ix x.1 x.2.2 >>= fun e7 =>
    (ix x.2.1 x.2.2 >>= fun e8 =>
    (if e7 = e8 then slices_Equal_string_L0 (x.1, x.2.1, (IntKind.i64.wrap (x.2.2 + 1))) else
    some (.inl false)))) else
    some (.inr ()))
  partial_fixpoint
def slices_Equal_string (x : ((List ByteArray) × (List ByteArray))) : Option Bool :=
    (if ((x.1.length : Nat) : Int) = ((x.2.length : Nat) : Int) then (slices_Equal_string_L0 (x.1, x.2, 0) >>= fun s10 =>
    (match s10 with
    | .inl r11 => some r11
    | .inr v12 => some true)) else
    some false)
mutual
def impl_SameExp (x : (Exp × Exp)) : Option Bool :=
    (if x.1.K = x.2.K then (if x.1.S = x.2.S then (if x.1.N = x.2.N then (slices_EqualFunc_impl_Exp_at_SameExp (x.1.L, x.2.L) >>= fun r4 =>
    (if r4 = true then (slices_EqualFunc_impl_Dec_at_sameDec (x.1.Decs, x.2.Decs) >>= fun r6 =>
    (if r6 = true then (slices_EqualFunc_impl_Alt_at_sameAlt (x.1.Alts, x.2.Alts) >>= fun r8 =>
    some r8) else
    some false)) else
    some false)) else
    some false) else
    some false) else
    some false)
  partial_fixpoint
def impl_sameAlt (x : (Alt × Alt)) : Option Bool :=
    (if x.1.Great = x.2.Great then (slices_Equal_string (x.1.Vars, x.2.Vars) >>= fun r2 =>
    (if r2 = true then (impl_SameExp (x.1.E, x.2.E) >>= fun r4 =>
    some r4) else
    some false)) else
    some false)
  partial_fixpoint
def impl_sameDec (x : (Dec × Dec)) : Option Bool :=
    (if x.1.Name = x.2.Name then (slices_Equal_string (x.1.Pars, x.2.Pars) >>= fun r2 =>
    (if r2 = true then (impl_SameExp (x.1.E, x.2.E) >>= fun r4 =>
    (if r4 = true then (slices_EqualFunc_impl_Dec_at_sameDec (x.1.Where, x.2.Where) >>= fun r6 =>
    some r6) else
    some false)) else
    some false)) else
    some false)
  partial_fixpoint
def slices_EqualFunc_impl_Alt_at_sameAlt (x : ((List Alt) × (List Alt))) : Option Bool :=
    (if ((x.1.length : Nat) : Int) = ((x.2.length : Nat) : Int) then (slices_EqualFunc_impl_Alt_at_sameAlt_L0 (x.2, x.1, 0) >>= fun s12 =>
    (match s12 with
    | .inl r13 => some r13
    | .inr v14 => some true)) else
    some false)
  partial_fixpoint
def slices_EqualFunc_impl_Alt_at_sameAlt_L0 (x : ((List Alt) × (List Alt) × Int)) : Option (Sum Bool Unit) :=
    (if x.2.2 < ((x.2.1.length : Nat) : Int) then (ix x.2.1 x.2.2 >>= fun e8 =>
    (ix x.1 x.2.2 >>= fun e9 =>
    (impl_sameAlt (e8, e9) >>= fun r10 =>
    (if r10 = true then slices_EqualFunc_impl_Alt_at_sameAlt_L0 (x.1, x.2.1, (IntKind.i64.wrap (x.2.2 + 1))) else
    some (.inl false))))) else
    some (.inr ()))
  partial_fixpoint
def slices_EqualFunc_impl_Dec_at_sameDec (x : ((List Dec) × (List Dec))) : Option Bool :=
    (if ((x.1.length : Nat) : Int) = ((x.2.length : Nat) : Int) then (slices_EqualFunc_impl_Dec_at_sameDec_L0 (x.2, x.1, 0) >>= fun s12 =>
    (match s12 with
    | .inl r13 => some r13
    | .inr v14 => some true)) else
    some false)
  partial_fixpoint
def slices_EqualFunc_impl_Dec_at_sameDec_L0 (x : ((List Dec) × (List Dec) × Int)) : Option (Sum Bool Unit) :=
    (if x.2.2 < ((x.2.1.length : Nat) : Int) then (ix x.2.1 x.2.2 >>= fun e8 =>
    (ix x.1 x.2.2 >>= fun e9 =>
    (impl_sameDec (e8, e9) >>= fun r10 =>
    (if r10 = true then slices_EqualFunc_impl_Dec_at_sameDec_L0 (x.1, x.2.1, (IntKind.i64.wrap (x.2.2 + 1))) else
    some (.inl false))))) else
    some (.inr ()))
  partial_fixpoint
def slices_EqualFunc_impl_Exp_at_SameExp (x : ((List Exp) × (List Exp))) : Option Bool :=
    (if ((x.1.length : Nat) : Int) = ((x.2.length : Nat) : Int) then (slices_EqualFunc_impl_Exp_at_SameExp_L0 (x.2, x.1, 0) >>= fun s12 =>
    (match s12 with
    | .inl r13 => some r13
    | .inr v14 => some true)) else
    some false)
  partial_fixpoint
def slices_EqualFunc_impl_Exp_at_SameExp_L0 (x : ((List Exp) × (List Exp) × Int)) : Option (Sum Bool Unit) :=
    (if x.2.2 < ((x.2.1.length : Nat) : Int) then (ix x.2.1 x.2.2 >>= fun e8 =>
    (ix x.1 x.2.2 >>= fun e9 =>
    (impl_SameExp (e8, e9) >>= fun r10 =>
    (if r10 = true then slices_EqualFunc_impl_Exp_at_SameExp_L0 (x.1, x.2.1, (IntKind.i64.wrap (x.2.2 + 1))) else
    some (.inl false))))) else
    some (.inr ()))
  partial_fixpoint
end
def spec_l3SameTexts_L0 (x : ((List ByteArray) × (List ByteArray) × Int)) : Option (Sum Bool Unit) :=
    (if x.2.2 < ((x.1.length : Nat) : Int) then (ix x.1 x.2.2 >>= fun e7 =>
    (ix x.2.1 x.2.2 >>= fun e8 =>
    (if e7 = e8 then spec_l3SameTexts_L0 (x.1, x.2.1, (IntKind.i64.wrap (x.2.2 + 1))) else
    some (.inl false)))) else
    some (.inr ()))
  partial_fixpoint
def spec_l3SameTexts (x : ((List ByteArray) × (List ByteArray))) : Option Bool :=
    (if ((x.1.length : Nat) : Int) = ((x.2.length : Nat) : Int) then (spec_l3SameTexts_L0 (x.1, x.2, 0) >>= fun s10 =>
    (match s10 with
    | .inl r11 => some r11
    | .inr v12 => some true)) else
    some false)
mutual
def spec_SameExp (x : (Exp × Exp)) : Option Bool :=
    (if x.1.K = x.2.K then (if x.1.S = x.2.S then (if x.1.N = x.2.N then (if ((x.1.L.length : Nat) : Int) = ((x.2.L.length : Nat) : Int) then (if ((x.1.Alts.length : Nat) : Int) = ((x.2.Alts.length : Nat) : Int) then (spec_l3SameDecs (x.1.Decs, x.2.Decs) >>= fun r6 =>
    (if r6 = true then (spec_SameExp_L0 (x.1, x.2, 0) >>= fun s18 =>
    (match s18 with
    | .inl r19 => some r19
    | .inr v20 => (spec_SameExp_L1 (x.1, x.2, 0) >>= fun s37 =>
    (match s37 with
    | .inl r38 => some r38
    | .inr v39 => some true)))) else
    some false)) else
    some false) else
    some false) else
    some false) else
    some false) else
    some false)
  partial_fixpoint
def spec_SameExp_L0 (x : (Exp × Exp × Int)) : Option (Sum Bool Unit) :=
    (if x.2.2 < ((x.1.L.length : Nat) : Int) then (ix x.1.L x.2.2 >>= fun e14 =>
    (ix x.2.1.L x.2.2 >>= fun e15 =>
    (spec_SameExp (e14, e15) >>= fun r16 =>
    (if r16 = true then spec_SameExp_L0 (x.1, x.2.1, (IntKind.i64.wrap (x.2.2 + 1))) else
    some (.inl false))))) else
    some (.inr ()))
  partial_fixpoint
def spec_SameExp_L1 (x : (Exp × Exp × Int)) : Option (Sum Bool Unit) :=
    (if x.2.2 < ((x.1.Alts.length : Nat) : Int) then (ix x.1.Alts x.2.2 >>= fun e30 =>
    (ix x.2.1.Alts x.2.2 >>= fun e31 =>
    (if e30.Great = e31.Great then (spec_l3SameTexts (e30.Vars, e31.Vars) >>= fun r33 =>
    (if r33 = true then (spec_SameExp (e30.E, e31.E) >>= fun r35 =>
    (if r35 = true then spec_SameExp_L1 (x.1, x.2.1, (IntKind.i64.wrap (x.2.2 + 1))) else
    some (.inl false))) else
    some (.inl false))) else
    some (.inl false)))) else
    some (.inr ()))
  partial_fixpoint
def spec_l3SameDecs (x : ((List Dec) × (List Dec))) : Option Bool :=
    (if ((x.1.length : Nat) : Int) = ((x.2.length : Nat) : Int) then (spec_l3SameDecs_L0 (x.1, x.2, 0) >>= fun s22 =>
    (match s22 with
    | .inl r23 => some r23
    | .inr v24 => some true)) else
    some false)
  partial_fixpoint
def spec_l3SameDecs_L0 (x : ((List Dec) × (List Dec) × Int)) : Option (Sum Bool Unit) :=
    (if x.2.2 < ((x.1.length : Nat) : Int) then (ix x.1 x.2.2 >>= fun e13 =>
    (ix x.2.1 x.2.2 >>= fun e14 =>
    (if e13.Name = e14.Name then (spec_l3SameTexts (e13.Pars, e14.Pars) >>= fun r16 =>
    (if r16 = true then (spec_SameExp (e13.E, e14.E) >>= fun r18 =>
    (if r18 = true then (spec_l3SameDecs (e13.Where, e14.Where) >>= fun r20 =>
    (if r20 = true then spec_l3SameDecs_L0 (x.1, x.2.1, (IntKind.i64.wrap (x.2.2 + 1))) else
    some (.inl false))) else
    some (.inl false))) else
    some (.inl false))) else
    some (.inl false)))) else
    some (.inr ()))
  partial_fixpoint
end
def laws_szStringS_L0 (x : ((List ByteArray) × Int × Int)) : Option (Sum Int Int) :=
    (if x.2.2 < ((x.1.length : Nat) : Int) then (ix x.1 x.2.2 >>= fun e6 =>
    (if (IntKind.i64.wrap (x.2.1 - ((e6.size : Nat) : Int))) < 0 then some (.inl (-1)) else
    laws_szStringS_L0 (x.1, (IntKind.i64.wrap (x.2.1 - ((e6.size : Nat) : Int))), (IntKind.i64.wrap (x.2.2 + 1))))) else
    some (.inr x.2.1))
  partial_fixpoint
def laws_szStringS (x : ((List ByteArray) × Int)) : Option Int :=
    (if (IntKind.i64.wrap (x.2 - ((x.1.length : Nat) : Int))) < 0 then some (-1) else
    (laws_szStringS_L0 (x.1, (IntKind.i64.wrap (x.2 - ((x.1.length : Nat) : Int))), 0) >>= fun s8 =>
    (match s8 with
    | .inl r9 => some r9
    | .inr v10 => some v10)))
mutual
def laws_szAlt (x : (Alt × Int)) : Option Int :=
    (if (IntKind.i64.wrap (x.2 - ((x.1.Great.size : Nat) : Int))) < 0 then some (-1) else
    (laws_szStringS (x.1.Vars, (IntKind.i64.wrap (x.2 - ((x.1.Great.size : Nat) : Int)))) >>= fun r2 =>
    (if r2 < 0 then some (-1) else
    (laws_szExp (x.1.E, r2) >>= fun r4 =>
    (if r4 < 0 then some (-1) else
    some r4)))))
  partial_fixpoint
def laws_szAltS (x : ((List Alt) × Int)) : Option Int :=
    (if (IntKind.i64.wrap (x.2 - ((x.1.length : Nat) : Int))) < 0 then some (-1) else
    (laws_szAltS_L0 (x.1, (IntKind.i64.wrap (x.2 - ((x.1.length : Nat) : Int))), 0) >>= fun s10 =>
    (match s10 with
    | .inl r11 => some r11
    | .inr v12 => some v12)))
  partial_fixpoint
def laws_szAltS_L0 (x : ((List Alt) × Int × Int)) : Option (Sum Int Int) :=
    (if x.2.2 < ((x.1.length : Nat) : Int) then (ix x.1 x.2.2 >>= fun e7 =>
    (laws_szAlt (e7, x.2.1) >>= fun r8 =>
    (if r8 < 0 then some (.inl (-1)) else
    laws_szAltS_L0 (x.1, r8, (IntKind.i64.wrap (x.2.2 + 1)))))) else
    some (.inr x.2.1))
  partial_fixpoint
def laws_szDec (x : (Dec × Int)) : Option Int :=
    (if (IntKind.i64.wrap (x.2 - ((x.1.Name.size : Nat) : Int))) < 0 then some (-1) else
    (laws_szStringS (x.1.Pars, (IntKind.i64.wrap (x.2 - ((x.1.Name.size : Nat) : Int)))) >>= fun r2 =>
    (if r2 < 0 then some (-1) else
    (laws_szExp (x.1.E, r2) >>= fun r4 =>
    (if r4 < 0 then some (-1) else
    (laws_szDecS (x.1.Where, r4) >>= fun r6 =>
    (if r6 < 0 then some (-1) else
    some r6)))))))
  partial_fixpoint
def laws_szDecS (x : ((List Dec) × Int)) : Option Int :=
    (if (IntKind.i64.wrap (x.2 - ((x.1.length : Nat) : Int))) < 0 then some (-1) else
    (laws_szDecS_L0 (x.1, (IntKind.i64.wrap (x.2 - ((x.1.length : Nat) : Int))), 0) >>= fun s10 =>
    (match s10 with
    | .inl r11 => some r11
    | .inr v12 => some v12)))
  partial_fixpoint
def laws_szDecS_L0 (x : ((List Dec) × Int × Int)) : Option (Sum Int Int) :=
    (if x.2.2 < ((x.1.length : Nat) : Int) then (ix x.1 x.2.2 >>= fun e7 =>
    (laws_szDec (e7, x.2.1) >>= fun r8 =>
    (if r8 < 0 then some (.inl (-1)) else
    laws_szDecS_L0 (x.1, r8, (IntKind.i64.wrap (x.2.2 + 1)))))) else
    some (.inr x.2.1))
  partial_fixpoint
def laws_szExp (x : (Exp × Int)) : Option Int :=
    (if (IntKind.i64.wrap (x.2 - ((x.1.S.size : Nat) : Int))) < 0 then some (-1) else
    (laws_szExpS (x.1.L, (IntKind.i64.wrap (x.2 - ((x.1.S.size : Nat) : Int)))) >>= fun r2 =>
    (if r2 < 0 then some (-1) else
    (laws_szDecS (x.1.Decs, r2) >>= fun r4 =>
    (if r4 < 0 then some (-1) else
    (laws_szAltS (x.1.Alts, r4) >>= fun r6 =>
    (if r6 < 0 then some (-1) else
    some r6)))))))
  partial_fixpoint
def laws_szExpS (x : ((List Exp) × Int)) : Option Int :=
    (if (IntKind.i64.wrap (x.2 - ((x.1.length : Nat) : Int))) < 0 then some (-1) else
    (laws_szExpS_L0 (x.1, (IntKind.i64.wrap (x.2 - ((x.1.length : Nat) : Int))), 0) >>= fun s10 =>
    (match s10 with
    | .inl r11 => some r11
    | .inr v12 => some v12)))
  partial_fixpoint
def laws_szExpS_L0 (x : ((List Exp) × Int × Int)) : Option (Sum Int Int) :=
    (if x.2.2 < ((x.1.length : Nat) : Int) then (ix x.1 x.2.2 >>= fun e7 =>
    (laws_szExp (e7, x.2.1) >>= fun r8 =>
    (if r8 < 0 then some (.inl (-1)) else
    laws_szExpS_L0 (x.1, r8, (IntKind.i64.wrap (x.2.2 + 1)))))) else
    some (.inr x.2.1))
  partial_fixpoint
end
def laws_eqStringS_L0 (x : ((List ByteArray) × (List ByteArray) × Int)) : Option (Sum Bool Unit) :=
    (if x.2.2 < ((x.1.length : Nat) : Int) then (ix x.1 x.2.2 >>= fun e7 =>
    (ix x.2.1 x.2.2 >>= fun e8 =>
    (if e7 = e8 then laws_eqStringS_L0 (x.1, x.2.1, (IntKind.i64.wrap (x.2.2 + 1))) else
    some (.inl false)))) else
    some (.inr ()))
  partial_fixpoint
def laws_eqStringS (x : ((List ByteArray) × (List ByteArray))) : Option Bool :=
    (if ((x.1.length : Nat) : Int) = ((x.2.length : Nat) : Int) then (laws_eqStringS_L0 (x.1, x.2, 0) >>= fun s10 =>
    (match s10 with
    | .inl r11 => some r11
    | .inr v12 => some true)) else
    some false)
mutual
def laws_eqAlt (x : (Alt × Alt)) : Option Bool :=
    (if x.1.Great = x.2.Great then (laws_eqStringS (x.1.Vars, x.2.Vars) >>= fun r2 =>
    (if r2 = true then (laws_eqExp (x.1.E, x.2.E) >>= fun r4 =>
    (if r4 = true then some true else
    some false)) else
    some false)) else
    some false)
  partial_fixpoint
def laws_eqAltS (x : ((List Alt) × (List Alt))) : Option Bool :=
    (if ((x.1.length : Nat) : Int) = ((x.2.length : Nat) : Int) then (laws_eqAltS_L0 (x.1, x.2, 0) >>= fun s12 =>
    (match s12 with
    | .inl r13 => some r13
    | .inr v14 => some true)) else
    some false)
  partial_fixpoint
def laws_eqAltS_L0 (x : ((List Alt) × (List Alt) × Int)) : Option (Sum Bool Unit) :=
    (if x.2.2 < ((x.1.length : Nat) : Int) then (ix x.1 x.2.2 >>= fun e8 =>
    (ix x.2.1 x.2.2 >>= fun e9 =>
    (laws_eqAlt (e8, e9) >>= fun r10 =>
    (if r10 = true then laws_eqAltS_L0 (x.1, x.2.1, (IntKind.i64.wrap (x.2.2 + 1))) else
    some (.inl false))))) else
    some (.inr ()))
  partial_fixpoint
def laws_eqDec (x : (Dec × Dec)) : Option Bool :=
    (if x.1.Name = x.2.Name then (laws_eqStringS (x.1.Pars, x.2.Pars) >>= fun r2 =>
    (if r2 = true then (laws_eqExp (x.1.E, x.2.E) >>= fun r4 =>
    (if r4 = true then (laws_eqDecS (x.1.Where, x.2.Where) >>= fun r6 =>
    (if r6 = true then some true else
    some false)) else
    some false)) else
    some false)) else
    some false)
  partial_fixpoint
def laws_eqDecS (x : ((List Dec) × (List Dec))) : Option Bool :=
    (if ((x.1.length : Nat) : Int) = ((x.2.length : Nat) : Int) then (laws_eqDecS_L0 (x.1, x.2, 0) >>= fun s12 =>
    (match s12 with
    | .inl r13 => some r13
    | .inr v14 => some true)) else
    some false)
  partial_fixpoint
def laws_eqDecS_L0 (x : ((List Dec) × (List Dec) × Int)) : Option (Sum Bool Unit) :=
    (if x.2.2 < ((x.1.length : Nat) : Int) then (ix x.1 x.2.2 >>= fun e8 =>
    (ix x.2.1 x.2.2 >>= fun e9 =>
    (laws_eqDec (e8, e9) >>= fun r10 =>
    (if r10 = true then laws_eqDecS_L0 (x.1, x.2.1, (IntKind.i64.wrap (x.2.2 + 1))) else
    some (.inl false))))) else
    some (.inr ()))
  partial_fixpoint
def laws_eqExp (x : (Exp × Exp)) : Option Bool :=
    (if x.1.K = x.2.K then (if x.1.S = x.2.S then (if x.1.N = x.2.N then (laws_eqExpS (x.1.L, x.2.L) >>= fun r4 =>
    (if r4 = true then (laws_eqDecS (x.1.Decs, x.2.Decs) >>= fun r6 =>
    (if r6 = true then (laws_eqAltS (x.1.Alts, x.2.Alts) >>= fun r8 =>
    (if r8 = true then some true else
    some false)) else
    some false)) else
    some false)) else
    some false) else
    some false) else
    some false)
  partial_fixpoint
def laws_eqExpS (x : ((List Exp) × (List Exp))) : Option Bool :=
    (if ((x.1.length : Nat) : Int) = ((x.2.length : Nat) : Int) then (laws_eqExpS_L0 (x.1, x.2, 0) >>= fun s12 =>
    (match s12 with
    | .inl r13 => some r13
    | .inr v14 => some true)) else
    some false)
  partial_fixpoint
def laws_eqExpS_L0 (x : ((List Exp) × (List Exp) × Int)) : Option (Sum Bool Unit) :=
    (if x.2.2 < ((x.1.length : Nat) : Int) then (ix x.1 x.2.2 >>= fun e8 =>
    (ix x.2.1 x.2.2 >>= fun e9 =>
    (laws_eqExp (e8, e9) >>= fun r10 =>
    (if r10 = true then laws_eqExpS_L0 (x.1, x.2.1, (IntKind.i64.wrap (x.2.2 + 1))) else
    some (.inl false))))) else
    some (.inr ()))
  partial_fixpoint
end
def laws_toStringS_L0 (x : ((List ByteArray) × Int × (List ByteArray))) : Option (List ByteArray) :=
    (if x.2.1 < ((x.1.length : Nat) : Int) then (ix x.1 x.2.1 >>= fun e18 =>
    (gd ((0 : Int) ≤ x.2.1) >>= fun u20 =>
    (gd (x.2.1 < ((x.2.2.length : Nat) : Int)) >>= fun u22 =>
    laws_toStringS_L0 (x.1, (IntKind.i64.wrap (x.2.1 + 1)), (x.2.2.set x.2.1.toNat e18))))) else
    some x.2.2)
  partial_fixpoint
def laws_toStringS (x : (List ByteArray)) : Option (List ByteArray) :=
    (gd ((0 : Int) ≤ ((x.length : Nat) : Int)) >>= fun u2 =>
    (gd (((x.length : Nat) : Int) ≤ (1099511627776 : Int)) >>= fun u4 =>
    (laws_toStringS_L0 (x, 0, (List.replicate x.length (⟨⟨[]⟩⟩ : ByteArray))) >>= fun s24 =>
    some s24)))
mutual
def laws_toAlt (x : Alt) : Option Alt :=
    (laws_toStringS x.Vars >>= fun r1 =>
    (laws_toExp x.E >>= fun r2 =>
    some (Alt.mk x.Great r1 r2)))
  partial_fixpoint
def laws_toAltS (x : (List Alt)) : Option (List Alt) :=
    (gd ((0 : Int) ≤ ((x.length : Nat) : Int)) >>= fun u2 =>
    (gd (((x.length : Nat) : Int) ≤ (1099511627776 : Int)) >>= fun u4 =>
    (laws_toAltS_L0 (x, 0, (List.replicate x.length (Alt.mk (⟨⟨[]⟩⟩ : ByteArray) [] (Exp.mk 0 (⟨⟨[]⟩⟩ : ByteArray) 0 [] [] [])))) >>= fun s27 =>
    some s27)))
  partial_fixpoint
def laws_toAltS_L0 (x : ((List Alt) × Int × (List Alt))) : Option (List Alt) :=
    (if x.2.1 < ((x.1.length : Nat) : Int) then (ix x.1 x.2.1 >>= fun e20 =>
    (laws_toAlt e20 >>= fun r21 =>
    (gd ((0 : Int) ≤ x.2.1) >>= fun u23 =>
    (gd (x.2.1 < ((x.2.2.length : Nat) : Int)) >>= fun u25 =>
    laws_toAltS_L0 (x.1, (IntKind.i64.wrap (x.2.1 + 1)), (x.2.2.set x.2.1.toNat r21)))))) else
    some x.2.2)
  partial_fixpoint
def laws_toDec (x : Dec) : Option Dec :=
    (laws_toStringS x.Pars >>= fun r1 =>
    (laws_toExp x.E >>= fun r2 =>
    (laws_toDecS x.Where >>= fun r3 =>
    some (Dec.mk x.Name r1 r2 r3))))
  partial_fixpoint
def laws_toDecS (x : (List Dec)) : Option (List Dec) :=
    (gd ((0 : Int) ≤ ((x.length : Nat) : Int)) >>= fun u2 =>
    (gd (((x.length : Nat) : Int) ≤ (1099511627776 : Int)) >>= fun u4 =>
    (laws_toDecS_L0 (x, 0, (List.replicate x.length (Dec.mk (⟨⟨[]⟩⟩ : ByteArray) [] (Exp.mk 0 (⟨⟨[]⟩⟩ : ByteArray) 0 [] [] []) []))) >>= fun s27 =>
    some s27)))
  partial_fixpoint
def laws_toDecS_L0 (x : ((List Dec) × Int × (List Dec))) : Option (List Dec) :=
    (if x.2.1 < ((x.1.length : Nat) : Int) then (ix x.1 x.2.1 >>= fun e20 =>
    (laws_toDec e20 >>= fun r21 =>
    (gd ((0 : Int) ≤ x.2.1) >>= fun u23 =>
    (gd (x.2.1 < ((x.2.2.length : Nat) : Int)) >>= fun u25 =>
    laws_toDecS_L0 (x.1, (IntKind.i64.wrap (x.2.1 + 1)), (x.2.2.set x.2.1.toNat r21)))))) else
    some x.2.2)
  partial_fixpoint
def laws_toExp (x : Exp) : Option Exp :=
    (laws_toExpS x.L >>= fun r1 =>
    (laws_toDecS x.Decs >>= fun r2 =>
    (laws_toAltS x.Alts >>= fun r3 =>
    some (Exp.mk x.K x.S x.N r1 r2 r3))))
  partial_fixpoint
def laws_toExpS (x : (List Exp)) : Option (List Exp) :=
    (gd ((0 : Int) ≤ ((x.length : Nat) : Int)) >>= fun u2 =>
    (gd (((x.length : Nat) : Int) ≤ (1099511627776 : Int)) >>= fun u4 =>
    (laws_toExpS_L0 (x, 0, (List.replicate x.length (Exp.mk 0 (⟨⟨[]⟩⟩ : ByteArray) 0 [] [] []))) >>= fun s27 =>
    some s27)))
  partial_fixpoint
def laws_toExpS_L0 (x : ((List Exp) × Int × (List Exp))) : Option (List Exp) :=
    (if x.2.1 < ((x.1.length : Nat) : Int) then (ix x.1 x.2.1 >>= fun e20 =>
    (laws_toExp e20 >>= fun r21 =>
    (gd ((0 : Int) ≤ x.2.1) >>= fun u23 =>
    (gd (x.2.1 < ((x.2.2.length : Nat) : Int)) >>= fun u25 =>
    laws_toExpS_L0 (x.1, (IntKind.i64.wrap (x.2.1 + 1)), (x.2.2.set x.2.1.toNat r21)))))) else
    some x.2.2)
  partial_fixpoint
end
def laws_FnExactSameExp (x : (Exp × Exp)) : Option Bool :=
    (laws_szExp (x.1, 1048576) >>= fun r1 =>
    (if r1 < 0 then some true else
    (laws_szExp (x.2, r1) >>= fun r3 =>
    (if r3 < 0 then some true else
    (laws_toExp x.1 >>= fun r5 =>
    (laws_toExp x.2 >>= fun r6 =>
    (spec_SameExp (r5, r6) >>= fun r7 =>
    (laws_toExp x.1 >>= fun r8 =>
    (laws_toExp x.2 >>= fun r9 =>
    (impl_SameExp (r8, r9) >>= fun r10 =>
    (if (r10 == r7) = true then (laws_toExp x.1 >>= fun r12 =>
    (laws_eqExp (r8, r12) >>= fun r13 =>
    (if r13 = true then (laws_toExp x.2 >>= fun r15 =>
    (laws_eqExp (r9, r15) >>= fun r16 =>
    (if r16 = true then some true else
    some false))) else
    some false))) else
    some false)))))))))))
end M
end W
