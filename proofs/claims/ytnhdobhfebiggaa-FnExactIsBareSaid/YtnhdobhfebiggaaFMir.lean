import Derived.Test.YtnhdobhfebiggaaFTy
namespace W
open Go HL
set_option linter.unusedVariables false
namespace M
def slices_Clone_string (x : (List ByteArray)) : Option (List ByteArray) :=
    (if x = [] then some [] else
    (gd (x.length ≤ grow) >>= fun u3 =>
    some x))
def impl_IsBare_1_1 (x : Dec) : Option Bool :=
    (if 0 < ((x.Pars.length : Nat) : Int) then some true else
    some (decide (0 < ((x.Where.length : Nat) : Int))))
def slices_IndexFunc_impl_Dec_at_IsBare_1_1_L0 (x : ((List Dec) × Int)) : Option (Sum Int Unit) :=
    (if x.2 < ((x.1.length : Nat) : Int) then (ix x.1 x.2 >>= fun e6 =>
    (impl_IsBare_1_1 e6 >>= fun r7 =>
    (if r7 = true then some (.inl x.2) else
    slices_IndexFunc_impl_Dec_at_IsBare_1_1_L0 (x.1, (IntKind.i64.wrap (x.2 + 1)))))) else
    some (.inr ()))
  partial_fixpoint
def slices_IndexFunc_impl_Dec_at_IsBare_1_1 (x : (List Dec)) : Option Int :=
    (slices_IndexFunc_impl_Dec_at_IsBare_1_1_L0 (x, 0) >>= fun s9 =>
    (match s9 with
    | .inl r10 => some r10
    | .inr v11 => some (-1)))
def slices_ContainsFunc_impl_Dec_at_IsBare_1_1 (x : (List Dec)) : Option Bool :=
    (slices_IndexFunc_impl_Dec_at_IsBare_1_1 x >>= fun r1 =>
    some (decide (0 ≤ r1)))
def impl_IsBare_1 (x : Exp) : Option Bool :=
    (slices_ContainsFunc_impl_Dec_at_IsBare_1_1 x.Decs >>= fun r1 =>
    some r1)
mutual
def impl_counted_1_at_IsBare_1 (x : (Exp × Int)) : Option (Exp × Int) :=
    (impl_counted_at_IsBare_1 x.1 >>= fun r1 =>
    some (x.1, (IntKind.i64.wrap (x.2 + r1))))
  partial_fixpoint
def impl_counted_at_IsBare_1 (x : Exp) : Option Int :=
    (impl_IsBare_1 x >>= fun r1 =>
    (if r1 = true then (impl_mapped_at_counted_1_IsBare_1 (x, 1) >>= fun r3 =>
    some r3.2) else
    (impl_mapped_at_counted_1_IsBare_1 (x, 0) >>= fun r4 =>
    some r4.2)))
  partial_fixpoint
def impl_mappedDecs_at_counted_1_IsBare_1 (x : ((List Dec) × Int)) : Option ((List Dec) × Int) :=
    (impl_mappedDecs_at_counted_1_IsBare_1_L0 (x.1, [], 0, x.2) >>= fun s25 =>
    some (s25.1, s25.2))
  partial_fixpoint
def impl_mappedDecs_at_counted_1_IsBare_1_L0 (x : ((List Dec) × (List Dec) × Int × Int)) : Option ((List Dec) × Int) :=
    (if x.2.2.1 < ((x.1.length : Nat) : Int) then (ix x.1 x.2.2.1 >>= fun e18 =>
    (slices_Clone_string e18.Pars >>= fun r19 =>
    (impl_counted_1_at_IsBare_1 (e18.E, x.2.2.2) >>= fun r20 =>
    (impl_mappedDecs_at_counted_1_IsBare_1 (e18.Where, r20.2) >>= fun r21 =>
    (gd (x.2.1.length + 1 ≤ grow) >>= fun u23 =>
    impl_mappedDecs_at_counted_1_IsBare_1_L0 (x.1, (x.2.1 ++ [(Dec.mk e18.Name r19 r20.1 r21.1)]), (IntKind.i64.wrap (x.2.2.1 + 1)), r21.2)))))) else
    some (x.2.1, x.2.2.2))
  partial_fixpoint
def impl_mapped_at_counted_1_IsBare_1 (x : (Exp × Int)) : Option (Exp × Int) :=
    (impl_mapped_at_counted_1_IsBare_1_L0 (x.1, 0, x.2, []) >>= fun s16 =>
    (impl_mappedDecs_at_counted_1_IsBare_1 (x.1.Decs, s16.1) >>= fun r17 =>
    (impl_mapped_at_counted_1_IsBare_1_L1 (x.1, s16, r17, 0, r17.2, []) >>= fun s36 =>
    some ((Exp.mk x.1.K x.1.S x.1.N s16.2 r17.1 s36.2), s36.1))))
  partial_fixpoint
def impl_mapped_at_counted_1_IsBare_1_L0 (x : (Exp × Int × Int × (List Exp))) : Option (Int × (List Exp)) :=
    (if x.2.1 < ((x.1.L.length : Nat) : Int) then (ix x.1.L x.2.1 >>= fun e11 =>
    (impl_counted_1_at_IsBare_1 (e11, x.2.2.1) >>= fun r12 =>
    (gd (x.2.2.2.length + 1 ≤ grow) >>= fun u14 =>
    impl_mapped_at_counted_1_IsBare_1_L0 (x.1, (IntKind.i64.wrap (x.2.1 + 1)), r12.2, (x.2.2.2 ++ [r12.1]))))) else
    some (x.2.2.1, x.2.2.2))
  partial_fixpoint
def impl_mapped_at_counted_1_IsBare_1_L1 (x : (Exp × (Int × (List Exp)) × ((List Dec) × Int) × Int × Int × (List Alt))) : Option (Int × (List Alt)) :=
    (if x.2.2.2.1 < ((x.1.Alts.length : Nat) : Int) then (ix x.1.Alts x.2.2.2.1 >>= fun e30 =>
    (slices_Clone_string e30.Vars >>= fun r31 =>
    (impl_counted_1_at_IsBare_1 (e30.E, x.2.2.2.2.1) >>= fun r32 =>
    (gd (x.2.2.2.2.2.length + 1 ≤ grow) >>= fun u34 =>
    impl_mapped_at_counted_1_IsBare_1_L1 (x.1, x.2.1, x.2.2.1, (IntKind.i64.wrap (x.2.2.2.1 + 1)), r32.2, (x.2.2.2.2.2 ++ [(Alt.mk e30.Great r31 r32.1)])))))) else
    some (x.2.2.2.2.1, x.2.2.2.2.2))
  partial_fixpoint
end
def impl_IsBare (x : Exp) : Option Bool :=
    (impl_counted_at_IsBare_1 x >>= fun r1 =>
    some (decide (r1 = 0)))
mutual
def spec_IsBare (x : Exp) : Option Bool :=
    (spec_IsBare_L0 (x, 0) >>= fun s9 =>
    (match s9 with
    | .inl r10 => some r10
    | .inr v11 => (spec_IsBare_L1 (x, 0) >>= fun s20 =>
    (match s20 with
    | .inl r21 => some r21
    | .inr v22 => (spec_l11Is x.Decs >>= fun r23 =>
    some r23)))))
  partial_fixpoint
def spec_IsBare_L0 (x : (Exp × Int)) : Option (Sum Bool Unit) :=
    (if x.2 < ((x.1.L.length : Nat) : Int) then (ix x.1.L x.2 >>= fun e6 =>
    (spec_IsBare e6 >>= fun r7 =>
    (if r7 = true then spec_IsBare_L0 (x.1, (IntKind.i64.wrap (x.2 + 1))) else
    some (.inl false)))) else
    some (.inr ()))
  partial_fixpoint
def spec_IsBare_L1 (x : (Exp × Int)) : Option (Sum Bool Unit) :=
    (if x.2 < ((x.1.Alts.length : Nat) : Int) then (ix x.1.Alts x.2 >>= fun e17 =>
    (spec_IsBare e17.E >>= fun r18 =>
    (if r18 = true then spec_IsBare_L1 (x.1, (IntKind.i64.wrap (x.2 + 1))) else
    some (.inl false)))) else
    some (.inr ()))
  partial_fixpoint
def spec_l11Is (x : (List Dec)) : Option Bool :=
    (spec_l11Is_L0 (x, 0) >>= fun s13 =>
    (match s13 with
    | .inl r14 => some r14
    | .inr v15 => some true))
  partial_fixpoint
def spec_l11Is_L0 (x : ((List Dec) × Int)) : Option (Sum Bool Unit) :=
    (if x.2 < ((x.1.length : Nat) : Int) then (ix x.1 x.2 >>= fun e8 =>
    (if 0 < ((e8.Pars.length : Nat) : Int) then some (.inl false) else
    (if 0 < ((e8.Where.length : Nat) : Int) then some (.inl false) else
    (spec_IsBare e8.E >>= fun r11 =>
    (if r11 = true then spec_l11Is_L0 (x.1, (IntKind.i64.wrap (x.2 + 1))) else
    some (.inl false)))))) else
    some (.inr ()))
  partial_fixpoint
end
def laws_toStringS_L0 (x : ((List ByteArray) × Int × (List ByteArray))) : Option (List ByteArray) :=
    (if x.2.1 < ((x.1.length : Nat) : Int) then (ix x.1 x.2.1 >>= fun e18 =>
    (gd ((0 : Int) ≤ x.2.1) >>= fun u20 =>
    (gd (x.2.1 < ((x.2.2.length : Nat) : Int)) >>= fun u22 =>
    laws_toStringS_L0 (x.1, (IntKind.i64.wrap (x.2.1 + 1)), (x.2.2.set x.2.1.toNat e18))))) else
    some x.2.2)
  partial_fixpoint
def laws_toStringS (x : (List ByteArray)) : Option (List ByteArray) :=
    (gd ((0 : Int) ≤ ((x.length : Nat) : Int)) >>= fun u2 =>
    (gd (((x.length : Nat) : Int) ≤ (1099511627776 : Int)) >>= fun u4 =>
    (laws_toStringS_L0 (x, 0, (List.replicate x.length (⟨⟨[]⟩⟩ : ByteArray))) >>= fun s24 =>
    some s24)))
mutual
def laws_toAlt (x : Alt) : Option Alt :=
    (laws_toStringS x.Vars >>= fun r1 =>
    (laws_toExp x.E >>= fun r2 =>
    some (Alt.mk x.Great r1 r2)))
  partial_fixpoint
def laws_toAltS (x : (List Alt)) : Option (List Alt) :=
    (gd ((0 : Int) ≤ ((x.length : Nat) : Int)) >>= fun u2 =>
    (gd (((x.length : Nat) : Int) ≤ (1099511627776 : Int)) >>= fun u4 =>
    (laws_toAltS_L0 (x, 0, (List.replicate x.length (Alt.mk (⟨⟨[]⟩⟩ : ByteArray) [] (Exp.mk 0 (⟨⟨[]⟩⟩ : ByteArray) 0 [] [] [])))) >>= fun s27 =>
    some s27)))
  partial_fixpoint
def laws_toAltS_L0 (x : ((List Alt) × Int × (List Alt))) : Option (List Alt) :=
    (if x.2.1 < ((x.1.length : Nat) : Int) then (ix x.1 x.2.1 >>= fun e20 =>
    (laws_toAlt e20 >>= fun r21 =>
    (gd ((0 : Int) ≤ x.2.1) >>= fun u23 =>
    (gd (x.2.1 < ((x.2.2.length : Nat) : Int)) >>= fun u25 =>
    laws_toAltS_L0 (x.1, (IntKind.i64.wrap (x.2.1 + 1)), (x.2.2.set x.2.1.toNat r21)))))) else
    some x.2.2)
  partial_fixpoint
def laws_toDec (x : Dec) : Option Dec :=
    (laws_toStringS x.Pars >>= fun r1 =>
    (laws_toExp x.E >>= fun r2 =>
    (laws_toDecS x.Where >>= fun r3 =>
    some (Dec.mk x.Name r1 r2 r3))))
  partial_fixpoint
def laws_toDecS (x : (List Dec)) : Option (List Dec) :=
    (gd ((0 : Int) ≤ ((x.length : Nat) : Int)) >>= fun u2 =>
    (gd (((x.length : Nat) : Int) ≤ (1099511627776 : Int)) >>= fun u4 =>
    (laws_toDecS_L0 (x, 0, (List.replicate x.length (Dec.mk (⟨⟨[]⟩⟩ : ByteArray) [] (Exp.mk 0 (⟨⟨[]⟩⟩ : ByteArray) 0 [] [] []) []))) >>= fun s27 =>
    some s27)))
  partial_fixpoint
def laws_toDecS_L0 (x : ((List Dec) × Int × (List Dec))) : Option (List Dec) :=
    (if x.2.1 < ((x.1.length : Nat) : Int) then (ix x.1 x.2.1 >>= fun e20 =>
    (laws_toDec e20 >>= fun r21 =>
    (gd ((0 : Int) ≤ x.2.1) >>= fun u23 =>
    (gd (x.2.1 < ((x.2.2.length : Nat) : Int)) >>= fun u25 =>
    laws_toDecS_L0 (x.1, (IntKind.i64.wrap (x.2.1 + 1)), (x.2.2.set x.2.1.toNat r21)))))) else
    some x.2.2)
  partial_fixpoint
def laws_toExp (x : Exp) : Option Exp :=
    (laws_toExpS x.L >>= fun r1 =>
    (laws_toDecS x.Decs >>= fun r2 =>
    (laws_toAltS x.Alts >>= fun r3 =>
    some (Exp.mk x.K x.S x.N r1 r2 r3))))
  partial_fixpoint
def laws_toExpS (x : (List Exp)) : Option (List Exp) :=
    (gd ((0 : Int) ≤ ((x.length : Nat) : Int)) >>= fun u2 =>
    (gd (((x.length : Nat) : Int) ≤ (1099511627776 : Int)) >>= fun u4 =>
    (laws_toExpS_L0 (x, 0, (List.replicate x.length (Exp.mk 0 (⟨⟨[]⟩⟩ : ByteArray) 0 [] [] []))) >>= fun s27 =>
    some s27)))
  partial_fixpoint
def laws_toExpS_L0 (x : ((List Exp) × Int × (List Exp))) : Option (List Exp) :=
    (if x.2.1 < ((x.1.length : Nat) : Int) then (ix x.1 x.2.1 >>= fun e20 =>
    (laws_toExp e20 >>= fun r21 =>
    (gd ((0 : Int) ≤ x.2.1) >>= fun u23 =>
    (gd (x.2.1 < ((x.2.2.length : Nat) : Int)) >>= fun u25 =>
    laws_toExpS_L0 (x.1, (IntKind.i64.wrap (x.2.1 + 1)), (x.2.2.set x.2.1.toNat r21)))))) else
    some x.2.2)
  partial_fixpoint
end
def laws_szStringS_L0 (x : ((List ByteArray) × Int × Int)) : Option (Sum Int Int) :=
    (if x.2.2 < ((x.1.length : Nat) : Int) then (ix x.1 x.2.2 >>= fun e6 =>
    (if (IntKind.i64.wrap (x.2.1 - ((e6.size : Nat) : Int))) < 0 then some (.inl (-1)) else
    laws_szStringS_L0 (x.1, (IntKind.i64.wrap (x.2.1 - ((e6.size : Nat) : Int))), (IntKind.i64.wrap (x.2.2 + 1))))) else
    some (.inr x.2.1))
  partial_fixpoint
def laws_szStringS (x : ((List ByteArray) × Int)) : Option Int :=
    (if (IntKind.i64.wrap (x.2 - ((x.1.length : Nat) : Int))) < 0 then some (-1) else
    (laws_szStringS_L0 (x.1, (IntKind.i64.wrap (x.2 - ((x.1.length : Nat) : Int))), 0) >>= fun s8 =>
    (match s8 with
    | .inl r9 => some r9
    | .inr v10 => some v10)))
mutual
def laws_szAlt (x : (Alt × Int)) : Option Int :=
    (if (IntKind.i64.wrap (x.2 - ((x.1.Great.size : Nat) : Int))) < 0 then some (-1) else
    (laws_szStringS (x.1.Vars, (IntKind.i64.wrap (x.2 - ((x.1.Great.size : Nat) : Int)))) >>= fun r2 =>
    (if r2 < 0 then some (-1) else
    (laws_szExp (x.1.E, r2) >>= fun r4 =>
    (if r4 < 0 then some (-1) else
    some r4)))))
  partial_fixpoint
def laws_szAltS (x : ((List Alt) × Int)) : Option Int :=
    (if (IntKind.i64.wrap (x.2 - ((x.1.length : Nat) : Int))) < 0 then some (-1) else
    (laws_szAltS_L0 (x.1, (IntKind.i64.wrap (x.2 - ((x.1.length : Nat) : Int))), 0) >>= fun s10 =>
    (match s10 with
    | .inl r11 => some r11
    | .inr v12 => some v12)))
  partial_fixpoint
def laws_szAltS_L0 (x : ((List Alt) × Int × Int)) : Option (Sum Int Int) :=
    (if x.2.2 < ((x.1.length : Nat) : Int) then (ix x.1 x.2.2 >>= fun e7 =>
    (laws_szAlt (e7, x.2.1) >>= fun r8 =>
    (if r8 < 0 then some (.inl (-1)) else
    laws_szAltS_L0 (x.1, r8, (IntKind.i64.wrap (x.2.2 + 1)))))) else
    some (.inr x.2.1))
  partial_fixpoint
def laws_szDec (x : (Dec × Int)) : Option Int :=
    (if (IntKind.i64.wrap (x.2 - ((x.1.Name.size : Nat) : Int))) < 0 then some (-1) else
    (laws_szStringS (x.1.Pars, (IntKind.i64.wrap (x.2 - ((x.1.Name.size : Nat) : Int)))) >>= fun r2 =>
    (if r2 < 0 then some (-1) else
    (laws_szExp (x.1.E, r2) >>= fun r4 =>
    (if r4 < 0 then some (-1) else
    (laws_szDecS (x.1.Where, r4) >>= fun r6 =>
    (if r6 < 0 then some (-1) else
    some r6)))))))
  partial_fixpoint
def laws_szDecS (x : ((List Dec) × Int)) : Option Int :=
    (if (IntKind.i64.wrap (x.2 - ((x.1.length : Nat) : Int))) < 0 then some (-1) else
    (laws_szDecS_L0 (x.1, (IntKind.i64.wrap (x.2 - ((x.1.length : Nat) : Int))), 0) >>= fun s10 =>
    (match s10 with
    | .inl r11 => some r11
    | .inr v12 => some v12)))
  partial_fixpoint
def laws_szDecS_L0 (x : ((List Dec) × Int × Int)) : Option (Sum Int Int) :=
    (if x.2.2 < ((x.1.length : Nat) : Int) then (ix x.1 x.2.2 >>= fun e7 =>
    (laws_szDec (e7, x.2.1) >>= fun r8 =>
    (if r8 < 0 then some (.inl (-1)) else
    laws_szDecS_L0 (x.1, r8, (IntKind.i64.wrap (x.2.2 + 1)))))) else
    some (.inr x.2.1))
  partial_fixpoint
def laws_szExp (x : (Exp × Int)) : Option Int :=
    (if (IntKind.i64.wrap (x.2 - ((x.1.S.size : Nat) : Int))) < 0 then some (-1) else
    (laws_szExpS (x.1.L, (IntKind.i64.wrap (x.2 - ((x.1.S.size : Nat) : Int)))) >>= fun r2 =>
    (if r2 < 0 then some (-1) else
    (laws_szDecS (x.1.Decs, r2) >>= fun r4 =>
    (if r4 < 0 then some (-1) else
    (laws_szAltS (x.1.Alts, r4) >>= fun r6 =>
    (if r6 < 0 then some (-1) else
    some r6)))))))
  partial_fixpoint
def laws_szExpS (x : ((List Exp) × Int)) : Option Int :=
    (if (IntKind.i64.wrap (x.2 - ((x.1.length : Nat) : Int))) < 0 then some (-1) else
    (laws_szExpS_L0 (x.1, (IntKind.i64.wrap (x.2 - ((x.1.length : Nat) : Int))), 0) >>= fun s10 =>
    (match s10 with
    | .inl r11 => some r11
    | .inr v12 => some v12)))
  partial_fixpoint
def laws_szExpS_L0 (x : ((List Exp) × Int × Int)) : Option (Sum Int Int) :=
    (if x.2.2 < ((x.1.length : Nat) : Int) then (ix x.1 x.2.2 >>= fun e7 =>
    (laws_szExp (e7, x.2.1) >>= fun r8 =>
    (if r8 < 0 then some (.inl (-1)) else
    laws_szExpS_L0 (x.1, r8, (IntKind.i64.wrap (x.2.2 + 1)))))) else
    some (.inr x.2.1))
  partial_fixpoint
end
def laws_eqStringS_L0 (x : ((List ByteArray) × (List ByteArray) × Int)) : Option (Sum Bool Unit) :=
    (if x.2.2 < ((x.1.length : Nat) : Int) then (ix x.1 x.2.2 >>= fun e7 =>
    (ix x.2.1 x.2.2 >>= fun e8 =>
    (if e7 = e8 then laws_eqStringS_L0 (x.1, x.2.1, (IntKind.i64.wrap (x.2.2 + 1))) else
    some (.inl false)))) else
    some (.inr ()))
  partial_fixpoint
def laws_eqStringS (x : ((List ByteArray) × (List ByteArray))) : Option Bool :=
    (if ((x.1.length : Nat) : Int) = ((x.2.length : Nat) : Int) then (laws_eqStringS_L0 (x.1, x.2, 0) >>= fun s10 =>
    (match s10 with
    | .inl r11 => some r11
    | .inr v12 => some true)) else
    some false)
mutual
def laws_eqAlt (x : (Alt × Alt)) : Option Bool :=
    (if x.1.Great = x.2.Great then (laws_eqStringS (x.1.Vars, x.2.Vars) >>= fun r2 =>
    (if r2 = true then (laws_eqExp (x.1.E, x.2.E) >>= fun r4 =>
    (if r4 = true then some true else
    some false)) else
    some false)) else
    some false)
  partial_fixpoint
def laws_eqAltS (x : ((List Alt) × (List Alt))) : Option Bool :=
    (if ((x.1.length : Nat) : Int) = ((x.2.length : Nat) : Int) then (laws_eqAltS_L0 (x.1, x.2, 0) >>= fun s12 =>
    (match s12 with
    | .inl r13 => some r13
    | .inr v14 => some true)) else
    some false)
  partial_fixpoint
def laws_eqAltS_L0 (x : ((List Alt) × (List Alt) × Int)) : Option (Sum Bool Unit) :=
    (if x.2.2 < ((x.1.length : Nat) : Int) then (ix x.1 x.2.2 >>= fun e8 =>
    (ix x.2.1 x.2.2 >>= fun e9 =>
    (laws_eqAlt (e8, e9) >>= fun r10 =>
    (if r10 = true then laws_eqAltS_L0 (x.1, x.2.1, (IntKind.i64.wrap (x.2.2 + 1))) else
    some (.inl false))))) else
    some (.inr ()))
  partial_fixpoint
def laws_eqDec (x : (Dec × Dec)) : Option Bool :=
    (if x.1.Name = x.2.Name then (laws_eqStringS (x.1.Pars, x.2.Pars) >>= fun r2 =>
    (if r2 = true then (laws_eqExp (x.1.E, x.2.E) >>= fun r4 =>
    (if r4 = true then (laws_eqDecS (x.1.Where, x.2.Where) >>= fun r6 =>
    (if r6 = true then some true else
    some false)) else
    some false)) else
    some false)) else
    some false)
  partial_fixpoint
def laws_eqDecS (x : ((List Dec) × (List Dec))) : Option Bool :=
    (if ((x.1.length : Nat) : Int) = ((x.2.length : Nat) : Int) then (laws_eqDecS_L0 (x.1, x.2, 0) >>= fun s12 =>
    (match s12 with
    | .inl r13 => some r13
    | .inr v14 => some true)) else
    some false)
  partial_fixpoint
def laws_eqDecS_L0 (x : ((List Dec) × (List Dec) × Int)) : Option (Sum Bool Unit) :=
    (if x.2.2 < ((x.1.length : Nat) : Int) then (ix x.1 x.2.2 >>= fun e8 =>
    (ix x.2.1 x.2.2 >>= fun e9 =>
    (laws_eqDec (e8, e9) >>= fun r10 =>
    (if r10 = true then laws_eqDecS_L0 (x.1, x.2.1, (IntKind.i64.wrap (x.2.2 + 1))) else
    some (.inl false))))) else
    some (.inr ()))
  partial_fixpoint
def laws_eqExp (x : (Exp × Exp)) : Option Bool :=
    (if x.1.K = x.2.K then (if x.1.S = x.2.S then (if x.1.N = x.2.N then (laws_eqExpS (x.1.L, x.2.L) >>= fun r4 =>
    (if r4 = true then (laws_eqDecS (x.1.Decs, x.2.Decs) >>= fun r6 =>
    (if r6 = true then (laws_eqAltS (x.1.Alts, x.2.Alts) >>= fun r8 =>
    (if r8 = true then some true else
    some false)) else
    some false)) else
    some false)) else
    some false) else
    some false) else
    some false)
  partial_fixpoint
def laws_eqExpS (x : ((List Exp) × (List Exp))) : Option Bool :=
    (if ((x.1.length : Nat) : Int) = ((x.2.length : Nat) : Int) then (laws_eqExpS_L0 (x.1, x.2, 0) >>= fun s12 =>
    (match s12 with
    | .inl r13 => some r13
    | .inr v14 => some true)) else
    some false)
  partial_fixpoint
def laws_eqExpS_L0 (x : ((List Exp) × (List Exp) × Int)) : Option (Sum Bool Unit) :=
    (if x.2.2 < ((x.1.length : Nat) : Int) then (ix x.1 x.2.2 >>= fun e8 =>
    (ix x.2.1 x.2.2 >>= fun e9 =>
    (laws_eqExp (e8, e9) >>= fun r10 =>
    (if r10 = true then laws_eqExpS_L0 (x.1, x.2.1, (IntKind.i64.wrap (x.2.2 + 1))) else
    some (.inl false))))) else
    some (.inr ()))
  partial_fixpoint
end
def laws_FnExactIsBare (x : Exp) : Option Bool :=
    (laws_szExp (x, 1048576) >>= fun r1 =>
    (if r1 < 0 then some true else
    (laws_toExp x >>= fun r3 =>
    (spec_IsBare r3 >>= fun r4 =>
    (laws_toExp x >>= fun r5 =>
    (impl_IsBare r5 >>= fun r6 =>
    (if (r6 == r4) = true then (laws_toExp x >>= fun r8 =>
    (laws_eqExp (r5, r8) >>= fun r9 =>
    (if r9 = true then some true else
    some false))) else
    some false)))))))
end M
end W
