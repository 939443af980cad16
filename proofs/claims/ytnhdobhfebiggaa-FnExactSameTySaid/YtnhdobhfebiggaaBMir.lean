import Derived.Test.YtnhdobhfebiggaaBTy
namespace W
open Go HL
set_option linter.unusedVariables false
namespace M
mutual
def impl_SameTy (x : (Ty × Ty)) : Option Bool :=
    (if x.1.K = x.2.K then (if x.1.S = x.2.S then (if x.1.N = x.2.N then (slices_EqualFunc_impl_Ty_at_SameTy (x.1.L, x.2.L) >>= fun r4 =>
    some r4) else
    some false) else
    some false) else
    some false)
  partial_fixpoint
def slices_EqualFunc_impl_Ty_at_SameTy (x : ((List Ty) × (List Ty))) : Option Bool :=
    (if ((x.1.length : Nat) : Int) = ((x.2.length : Nat) : Int) then (slices_EqualFunc_impl_Ty_at_SameTy_L0 (x.2, x.1, 0) >>= fun s12 =>
    (match s12 with
    | .inl r13 => some r13
    | .inr v14 => some true)) else
    some false)
  partial_fixpoint
def slices_EqualFunc_impl_Ty_at_SameTy_L0 (x : ((List Ty) × (List Ty) × Int)) : Option (Sum Bool Unit) :=
    (if x.2.2 < ((x.2.1.length : Nat) : Int) then (ix x.2.1 x.2.2 >>= fun e8 =>
    (ix x.1 x.2.2 >>= fun e9 =>
    (impl_SameTy (e8, e9) >>= fun r10 =>
    (if r10 = true then slices_EqualFunc_impl_Ty_at_SameTy_L0 (x.1, x.2.1, (IntKind.i64.wrap (x.2.2 + 1))) else
    some (.inl false))))) else
    some (.inr ()))
  partial_fixpoint
end
mutual
def laws_eqTy (x : (Ty × Ty)) : Option Bool :=
    (if x.1.K = x.2.K then (if x.1.S = x.2.S then (if x.1.N = x.2.N then (laws_eqTyS (x.1.L, x.2.L) >>= fun r4 =>
    (if r4 = true then some true else
    some false)) else
    some false) else
    some false) else
    some false)
  partial_fixpoint
def laws_eqTyS (x : ((List Ty) × (List Ty))) : Option Bool :=
    (if ((x.1.length : Nat) : Int) = ((x.2.length : Nat) : Int) then (laws_eqTyS_L0 (x.1, x.2, 0) >>= fun s12 =>
    (match s12 with
    | .inl r13 => some r13
    | .inr v14 => some true)) else
    some false)
  partial_fixpoint
def laws_eqTyS_L0 (x : ((List Ty) × (List Ty) × Int)) : Option (Sum Bool Unit) :=
    (if x.2.2 < ((x.1.length : Nat) : Int) then (ix x.1 x.2.2 >>= fun e8 =>
    (ix x.2.1 x.2.2 >>= fun e9 =>
    (laws_eqTy (e8, e9) >>= fun r10 =>
    (if r10 = true then laws_eqTyS_L0 (x.1, x.2.1, (IntKind.i64.wrap (x.2.2 + 1))) else
    some (.inl false))))) else
    some (.inr ()))
  partial_fixpoint
end
mutual
def laws_szTy (x : (Ty × Int)) : Option Int :=
    (if (IntKind.i64.wrap (x.2 - ((x.1.S.size : Nat) : Int))) < 0 then some (-1) else
    (laws_szTyS (x.1.L, (IntKind.i64.wrap (x.2 - ((x.1.S.size : Nat) : Int)))) >>= fun r2 =>
    (if r2 < 0 then some (-1) else
    some r2)))
  partial_fixpoint
def laws_szTyS (x : ((List Ty) × Int)) : Option Int :=
    (if (IntKind.i64.wrap (x.2 - ((x.1.length : Nat) : Int))) < 0 then some (-1) else
    (laws_szTyS_L0 (x.1, (IntKind.i64.wrap (x.2 - ((x.1.length : Nat) : Int))), 0) >>= fun s10 =>
    (match s10 with
    | .inl r11 => some r11
    | .inr v12 => some v12)))
  partial_fixpoint
def laws_szTyS_L0 (x : ((List Ty) × Int × Int)) : Option (Sum Int Int) :=
    (if x.2.2 < ((x.1.length : Nat) : Int) then (ix x.1 x.2.2 >>= fun e7 =>
    (laws_szTy (e7, x.2.1) >>= fun r8 =>
    (if r8 < 0 then some (.inl (-1)) else
    laws_szTyS_L0 (x.1, r8, (IntKind.i64.wrap (x.2.2 + 1)))))) else
    some (.inr x.2.1))
  partial_fixpoint
end
mutual
def spec_SameTy (x : (Ty × Ty)) : Option Bool :=
    (if x.1.K = x.2.K then (if x.1.S = x.2.S then (if x.1.N = x.2.N then (if ((x.1.L.length : Nat) : Int) = ((x.2.L.length : Nat) : Int) then (spec_SameTy_L0 (x.1, x.2, 0) >>= fun s15 =>
    (match s15 with
    | .inl r16 => some r16
    | .inr v17 => some true)) else
    some false) else
    some false) else
    some false) else
    some false)
  partial_fixpoint
def spec_SameTy_L0 (x : (Ty × Ty × Int)) : Option (Sum Bool Unit) :=
    (if x.2.2 < ((x.1.L.length : Nat) : Int) then (ix x.1.L x.2.2 >>= fun e11 =>
    (ix x.2.1.L x.2.2 >>= fun e12 =>
    (spec_SameTy (e11, e12) >>= fun r13 =>
    (if r13 = true then spec_SameTy_L0 (x.1, x.2.1, (IntKind.i64.wrap (x.2.2 + 1))) else
    some (.inl false))))) else
    some (.inr ()))
  partial_fixpoint
end
mutual
def laws_toTy (x : Ty) : Option Ty :=
    (laws_toTyS x.L >>= fun r1 =>
    some (Ty.mk x.K x.S x.N r1))
  partial_fixpoint
def laws_toTyS (x : (List Ty)) : Option (List Ty) :=
    (gd ((0 : Int) ≤ ((x.length : Nat) : Int)) >>= fun u2 =>
    (gd (((x.length : Nat) : Int) ≤ (1099511627776 : Int)) >>= fun u4 =>
    (laws_toTyS_L0 (x, 0, (List.replicate x.length (Ty.mk 0 (⟨⟨[]⟩⟩ : ByteArray) 0 []))) >>= fun s27 =>
    some s27)))
  partial_fixpoint
def laws_toTyS_L0 (x : ((List Ty) × Int × (List Ty))) : Option (List Ty) :=
    (if x.2.1 < ((x.1.length : Nat) : Int) then (ix x.1 x.2.1 >>= fun e20 =>
    (laws_toTy e20 >>= fun r21 =>
    (gd ((0 : Int) ≤ x.2.1) >>= fun u23 =>
    (gd (x.2.1 < ((x.2.2.length : Nat) : Int)) >>= fun u25 =>
    laws_toTyS_L0 (x.1, (IntKind.i64.wrap (x.2.1 + 1)), (x.2.2.set x.2.1.toNat r21)))))) else
    some x.2.2)
  partial_fixpoint
end
def laws_FnExactSameTy (x : (Ty × Ty)) : Option Bool :=
    (laws_szTy (x.1, 1048576) >>= fun r1 =>
    (if r1 < 0 then some true else
    (laws_szTy (x.2, r1) >>= fun r3 =>
    (if r3 < 0 then some true else
    (laws_toTy x.1 >>= fun r5 =>
    (laws_toTy x.2 >>= fun r6 =>
    (spec_SameTy (r5, r6) >>= fun r7 =>
    (laws_toTy x.1 >>= fun r8 =>
    (laws_toTy x.2 >>= fun r9 =>
    (impl_SameTy (r8, r9) >>= fun r10 =>
    (if (r10 == r7) = true then (laws_toTy x.1 >>= fun r12 =>
    (laws_eqTy (r8, r12) >>= fun r13 =>
    (if r13 = true then (laws_toTy x.2 >>= fun r15 =>
    (laws_eqTy (r9, r15) >>= fun r16 =>
    (if r16 = true then some true else
    some false))) else
    some false))) else
    some false)))))))))))
end M
end W
