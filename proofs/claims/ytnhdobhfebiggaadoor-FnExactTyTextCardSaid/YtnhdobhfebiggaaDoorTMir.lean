import Derived.Test.YtnhdobhfebiggaaDoorTTy
namespace W
open Go HL
set_option linter.unusedVariables false
namespace M
def strconv_Itoa (x : Int) : Option ByteArray := if -9223372036854775808 ≤ x ∧ x ≤ 9223372036854775807 then some ⟨(Lib.itoa x).toArray⟩ else none
def impl_tyText (x : (Ty × Int)) : Option (ByteArray × Bool) :=
    (if 12 < x.2 then some ((⟨⟨[]⟩⟩ : ByteArray), false) else
    (if x.1.K = 1 then some ((⟨⟨[73, 110, 116]⟩⟩ : ByteArray), true) else
    (if x.1.K = 2 then some ((⟨⟨[66, 111, 111, 108]⟩⟩ : ByteArray), true) else
    (if x.1.K = 3 then some (x.1.S, true) else
    (if x.1.K = 5 then (strconv_Itoa x.1.N >>= fun r6 =>
    (gd ((⟨⟨[116]⟩⟩ : ByteArray).size + r6.size ≤ lim) >>= fun u8 =>
    some (((⟨⟨[116]⟩⟩ : ByteArray) ++ r6), (decide (0 ≤ x.1.N))))) else
    (if x.1.K = 4 then (if ((x.1.L.length : Nat) : Int) = 2 then (ix x.1.L 0 >>= fun e11 =>
    (impl_tyText (e11, (IntKind.i64.wrap (x.2 + 1))) >>= fun r12 =>
    (ix x.1.L 1 >>= fun e13 =>
    (impl_tyText (e13, (IntKind.i64.wrap (x.2 + 1))) >>= fun r14 =>
    (if e11.K = 4 then (gd ((⟨⟨[40]⟩⟩ : ByteArray).size + r12.1.size ≤ lim) >>= fun u17 =>
    (gd (((⟨⟨[40]⟩⟩ : ByteArray) ++ r12.1).size + (⟨⟨[41]⟩⟩ : ByteArray).size ≤ lim) >>= fun u19 =>
    (gd ((((⟨⟨[40]⟩⟩ : ByteArray) ++ r12.1) ++ (⟨⟨[41]⟩⟩ : ByteArray)).size + (⟨⟨[32, 45, 62, 32]⟩⟩ : ByteArray).size ≤ lim) >>= fun u21 =>
    (gd (((((⟨⟨[40]⟩⟩ : ByteArray) ++ r12.1) ++ (⟨⟨[41]⟩⟩ : ByteArray)) ++ (⟨⟨[32, 45, 62, 32]⟩⟩ : ByteArray)).size + r14.1.size ≤ lim) >>= fun u23 =>
    (if r12.2 = true then some ((((((⟨⟨[40]⟩⟩ : ByteArray) ++ r12.1) ++ (⟨⟨[41]⟩⟩ : ByteArray)) ++ (⟨⟨[32, 45, 62, 32]⟩⟩ : ByteArray)) ++ r14.1), r14.2) else
    some ((((((⟨⟨[40]⟩⟩ : ByteArray) ++ r12.1) ++ (⟨⟨[41]⟩⟩ : ByteArray)) ++ (⟨⟨[32, 45, 62, 32]⟩⟩ : ByteArray)) ++ r14.1), false)))))) else
    (gd (r12.1.size + (⟨⟨[32, 45, 62, 32]⟩⟩ : ByteArray).size ≤ lim) >>= fun u26 =>
    (gd ((r12.1 ++ (⟨⟨[32, 45, 62, 32]⟩⟩ : ByteArray)).size + r14.1.size ≤ lim) >>= fun u28 =>
    (if r12.2 = true then some (((r12.1 ++ (⟨⟨[32, 45, 62, 32]⟩⟩ : ByteArray)) ++ r14.1), r14.2) else
    some (((r12.1 ++ (⟨⟨[32, 45, 62, 32]⟩⟩ : ByteArray)) ++ r14.1), false))))))))) else
    some ((⟨⟨[]⟩⟩ : ByteArray), false)) else
    some ((⟨⟨[]⟩⟩ : ByteArray), false)))))))
  partial_fixpoint
def impl_TyText (x : Ty) : Option ByteArray :=
    (impl_tyText (x, 1) >>= fun r1 =>
    (if r1.2 = true then some r1.1 else
    some (⟨⟨[]⟩⟩ : ByteArray)))
mutual
def laws_szTy (x : (Ty × Int)) : Option Int :=
    (if (IntKind.i64.wrap (x.2 - ((x.1.S.size : Nat) : Int))) < 0 then some (-1) else
    (laws_szTyS (x.1.L, (IntKind.i64.wrap (x.2 - ((x.1.S.size : Nat) : Int)))) >>= fun r2 =>
    (if r2 < 0 then some (-1) else
    some r2)))
  partial_fixpoint
def laws_szTyS (x : ((List Ty) × Int)) : Option Int :=
    (if (IntKind.i64.wrap (x.2 - ((x.1.length : Nat) : Int))) < 0 then some (-1) else
    (laws_szTyS_L0 (x.1, (IntKind.i64.wrap (x.2 - ((x.1.length : Nat) : Int))), 0) >>= fun s10 =>
    (match s10 with
    | .inl r11 => some r11
    | .inr v12 => some v12)))
  partial_fixpoint
def laws_szTyS_L0 (x : ((List Ty) × Int × Int)) : Option (Sum Int Int) :=
    (if x.2.2 < ((x.1.length : Nat) : Int) then (ix x.1 x.2.2 >>= fun e7 =>
    (laws_szTy (e7, x.2.1) >>= fun r8 =>
    (if r8 < 0 then some (.inl (-1)) else
    laws_szTyS_L0 (x.1, r8, (IntKind.i64.wrap (x.2.2 + 1)))))) else
    some (.inr x.2.1))
  partial_fixpoint
end
mutual
def laws_toTy (x : Ty) : Option Ty :=
    (laws_toTyS x.L >>= fun r1 =>
    some (Ty.mk x.K x.S x.N r1))
  partial_fixpoint
def laws_toTyS (x : (List Ty)) : Option (List Ty) :=
    (gd ((0 : Int) ≤ ((x.length : Nat) : Int)) >>= fun u2 =>
    (gd (((x.length : Nat) : Int) ≤ (1099511627776 : Int)) >>= fun u4 =>
    (laws_toTyS_L0 (x, 0, (List.replicate x.length (Ty.mk 0 (⟨⟨[]⟩⟩ : ByteArray) 0 []))) >>= fun s27 =>
    some s27)))
  partial_fixpoint
def laws_toTyS_L0 (x : ((List Ty) × Int × (List Ty))) : Option (List Ty) :=
    (if x.2.1 < ((x.1.length : Nat) : Int) then (ix x.1 x.2.1 >>= fun e20 =>
    (laws_toTy e20 >>= fun r21 =>
    (gd ((0 : Int) ≤ x.2.1) >>= fun u23 =>
    (gd (x.2.1 < ((x.2.2.length : Nat) : Int)) >>= fun u25 =>
    laws_toTyS_L0 (x.1, (IntKind.i64.wrap (x.2.1 + 1)), (x.2.2.set x.2.1.toNat r21)))))) else
    some x.2.2)
  partial_fixpoint
end
mutual
def laws_eqTy (x : (Ty × Ty)) : Option Bool :=
    (if x.1.K = x.2.K then (if x.1.S = x.2.S then (if x.1.N = x.2.N then (laws_eqTyS (x.1.L, x.2.L) >>= fun r4 =>
    (if r4 = true then some true else
    some false)) else
    some false) else
    some false) else
    some false)
  partial_fixpoint
def laws_eqTyS (x : ((List Ty) × (List Ty))) : Option Bool :=
    (if ((x.1.length : Nat) : Int) = ((x.2.length : Nat) : Int) then (laws_eqTyS_L0 (x.1, x.2, 0) >>= fun s12 =>
    (match s12 with
    | .inl r13 => some r13
    | .inr v14 => some true)) else
    some false)
  partial_fixpoint
def laws_eqTyS_L0 (x : ((List Ty) × (List Ty) × Int)) : Option (Sum Bool Unit) :=
    (if x.2.2 < ((x.1.length : Nat) : Int) then (ix x.1 x.2.2 >>= fun e8 =>
    (ix x.2.1 x.2.2 >>= fun e9 =>
    (laws_eqTy (e8, e9) >>= fun r10 =>
    (if r10 = true then laws_eqTyS_L0 (x.1, x.2.1, (IntKind.i64.wrap (x.2.2 + 1))) else
    some (.inl false))))) else
    some (.inr ()))
  partial_fixpoint
end
def spec_l5Num (x : Int) : Option ByteArray :=
    (if x < 10 then some (bsOf ([(IntKind.u8.wrap (IntKind.i64.wrap (48 + x)))])) else
    (spec_l5Num (IntKind.i64.wrap (Int.tdiv x 10)) >>= fun r2 =>
    (gd (r2.size + (bsOf ([(IntKind.u8.wrap (IntKind.i64.wrap (48 + (Int.tmod x 10))))])).size ≤ lim) >>= fun u4 =>
    some (r2 ++ (bsOf ([(IntKind.u8.wrap (IntKind.i64.wrap (48 + (Int.tmod x 10))))]))))))
  partial_fixpoint
def spec_l9Text (x : (Ty × Int)) : Option (ByteArray × Bool) :=
    (if 12 < x.2 then some ((⟨⟨[]⟩⟩ : ByteArray), false) else
    (if x.1.K = 1 then some ((⟨⟨[73, 110, 116]⟩⟩ : ByteArray), true) else
    (if x.1.K = 2 then some ((⟨⟨[66, 111, 111, 108]⟩⟩ : ByteArray), true) else
    (if x.1.K = 3 then some (x.1.S, true) else
    (if x.1.K = 5 then (if 0 ≤ x.1.N then (spec_l5Num x.1.N >>= fun r7 =>
    (gd ((⟨⟨[116]⟩⟩ : ByteArray).size + r7.size ≤ lim) >>= fun u9 =>
    some (((⟨⟨[116]⟩⟩ : ByteArray) ++ r7), true))) else
    (if x.1.K = 4 then (if ((x.1.L.length : Nat) : Int) = 2 then (ix x.1.L 0 >>= fun e12 =>
    (spec_l9Text (e12, (IntKind.i64.wrap (x.2 + 1))) >>= fun r13 =>
    (ix x.1.L 1 >>= fun e14 =>
    (spec_l9Text (e14, (IntKind.i64.wrap (x.2 + 1))) >>= fun r15 =>
    (if e12.K = 4 then (gd ((⟨⟨[40]⟩⟩ : ByteArray).size + r13.1.size ≤ lim) >>= fun u18 =>
    (gd (((⟨⟨[40]⟩⟩ : ByteArray) ++ r13.1).size + (⟨⟨[41]⟩⟩ : ByteArray).size ≤ lim) >>= fun u20 =>
    (gd ((((⟨⟨[40]⟩⟩ : ByteArray) ++ r13.1) ++ (⟨⟨[41]⟩⟩ : ByteArray)).size + (⟨⟨[32, 45, 62, 32]⟩⟩ : ByteArray).size ≤ lim) >>= fun u22 =>
    (gd (((((⟨⟨[40]⟩⟩ : ByteArray) ++ r13.1) ++ (⟨⟨[41]⟩⟩ : ByteArray)) ++ (⟨⟨[32, 45, 62, 32]⟩⟩ : ByteArray)).size + r15.1.size ≤ lim) >>= fun u24 =>
    (if r13.2 = true then some ((((((⟨⟨[40]⟩⟩ : ByteArray) ++ r13.1) ++ (⟨⟨[41]⟩⟩ : ByteArray)) ++ (⟨⟨[32, 45, 62, 32]⟩⟩ : ByteArray)) ++ r15.1), r15.2) else
    some ((((((⟨⟨[40]⟩⟩ : ByteArray) ++ r13.1) ++ (⟨⟨[41]⟩⟩ : ByteArray)) ++ (⟨⟨[32, 45, 62, 32]⟩⟩ : ByteArray)) ++ r15.1), false)))))) else
    (gd (r13.1.size + (⟨⟨[32, 45, 62, 32]⟩⟩ : ByteArray).size ≤ lim) >>= fun u27 =>
    (gd ((r13.1 ++ (⟨⟨[32, 45, 62, 32]⟩⟩ : ByteArray)).size + r15.1.size ≤ lim) >>= fun u29 =>
    (if r13.2 = true then some (((r13.1 ++ (⟨⟨[32, 45, 62, 32]⟩⟩ : ByteArray)) ++ r15.1), r15.2) else
    some (((r13.1 ++ (⟨⟨[32, 45, 62, 32]⟩⟩ : ByteArray)) ++ r15.1), false))))))))) else
    some ((⟨⟨[]⟩⟩ : ByteArray), false)) else
    some ((⟨⟨[]⟩⟩ : ByteArray), false))) else
    (if x.1.K = 4 then (if ((x.1.L.length : Nat) : Int) = 2 then (ix x.1.L 0 >>= fun e33 =>
    (spec_l9Text (e33, (IntKind.i64.wrap (x.2 + 1))) >>= fun r34 =>
    (ix x.1.L 1 >>= fun e35 =>
    (spec_l9Text (e35, (IntKind.i64.wrap (x.2 + 1))) >>= fun r36 =>
    (if e33.K = 4 then (gd ((⟨⟨[40]⟩⟩ : ByteArray).size + r34.1.size ≤ lim) >>= fun u39 =>
    (gd (((⟨⟨[40]⟩⟩ : ByteArray) ++ r34.1).size + (⟨⟨[41]⟩⟩ : ByteArray).size ≤ lim) >>= fun u41 =>
    (gd ((((⟨⟨[40]⟩⟩ : ByteArray) ++ r34.1) ++ (⟨⟨[41]⟩⟩ : ByteArray)).size + (⟨⟨[32, 45, 62, 32]⟩⟩ : ByteArray).size ≤ lim) >>= fun u43 =>
    (gd (((((⟨⟨[40]⟩⟩ : ByteArray) ++ r34.1) ++ (⟨⟨[41]⟩⟩ : ByteArray)) ++ (⟨⟨[32, 45, 62, 32]⟩⟩ : ByteArray)).size + r36.1.size ≤ lim) >>= fun u45 =>
    (if r34.2 = true then some ((((((⟨⟨[40]⟩⟩ : ByteArray) ++ r34.1) ++ (⟨⟨[41]⟩⟩ : ByteArray)) ++ (⟨⟨[32, 45, 62, 32]⟩⟩ : ByteArray)) ++ r36.1), r36.2) else
    some ((((((⟨⟨[40]⟩⟩ : ByteArray) ++ r34.1) ++ (⟨⟨[41]⟩⟩ : ByteArray)) ++ (⟨⟨[32, 45, 62, 32]⟩⟩ : ByteArray)) ++ r36.1), false)))))) else
    (gd (r34.1.size + (⟨⟨[32, 45, 62, 32]⟩⟩ : ByteArray).size ≤ lim) >>= fun u48 =>
    (gd ((r34.1 ++ (⟨⟨[32, 45, 62, 32]⟩⟩ : ByteArray)).size + r36.1.size ≤ lim) >>= fun u50 =>
    (if r34.2 = true then some (((r34.1 ++ (⟨⟨[32, 45, 62, 32]⟩⟩ : ByteArray)) ++ r36.1), r36.2) else
    some (((r34.1 ++ (⟨⟨[32, 45, 62, 32]⟩⟩ : ByteArray)) ++ r36.1), false))))))))) else
    some ((⟨⟨[]⟩⟩ : ByteArray), false)) else
    some ((⟨⟨[]⟩⟩ : ByteArray), false)))))))
  partial_fixpoint
def spec_TyText (x : Ty) : Option ByteArray :=
    (spec_l9Text (x, 1) >>= fun r1 =>
    (if r1.2 = true then some r1.1 else
    some (⟨⟨[]⟩⟩ : ByteArray)))
def laws_FnExactTyText (x : Ty) : Option Bool :=
    (laws_szTy (x, 1048576) >>= fun r1 =>
    (if r1 < 0 then some true else
    (laws_toTy x >>= fun r3 =>
    (spec_TyText r3 >>= fun r4 =>
    (laws_toTy x >>= fun r5 =>
    (impl_TyText r5 >>= fun r6 =>
    (if r6 = r4 then (laws_toTy x >>= fun r8 =>
    (laws_eqTy (r5, r8) >>= fun r9 =>
    (if r9 = true then some true else
    some false))) else
    some false)))))))
end M
end W
