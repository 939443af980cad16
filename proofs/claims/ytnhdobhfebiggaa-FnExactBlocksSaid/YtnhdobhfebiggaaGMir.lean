import Derived.Test.YtnhdobhfebiggaaGTy
namespace W
open Go HL
set_option linter.unusedVariables false
namespace M
def impl_isMark (x : (Tok × ByteArray)) : Option Bool :=
    (if x.1.K = 5 then some (decide (x.1.S = x.2)) else
    some false)
def impl_Blocks_1 (x : Tok) : Option Bool :=
    (impl_isMark (x, (⟨⟨[123]⟩⟩ : ByteArray)) >>= fun r1 =>
    (if r1 = true then some (!(decide (x.Line = 0))) else
    some true))
def slices_IndexFunc_impl_Tok_at_Blocks_1_L0 (x : ((List Tok) × Int)) : Option (Sum (Int × (List Tok)) Unit) :=
    (if x.2 < ((x.1.length : Nat) : Int) then (ix x.1 x.2 >>= fun e6 =>
    (impl_Blocks_1 e6 >>= fun r7 =>
    (if r7 = true then some (.inl (x.2, x.1)) else
    slices_IndexFunc_impl_Tok_at_Blocks_1_L0 (x.1, (IntKind.i64.wrap (x.2 + 1)))))) else
    some (.inr ()))
  partial_fixpoint
def slices_IndexFunc_impl_Tok_at_Blocks_1 (x : (List Tok)) : Option (Int × (List Tok)) :=
    (slices_IndexFunc_impl_Tok_at_Blocks_1_L0 (x, 0) >>= fun s9 =>
    (match s9 with
    | .inl r10 => some r10
    | .inr v11 => some ((-1), x)))
def slices_DeleteFunc_impl_Tok_at_Blocks_1_L0 (x : (Int × Int × (List Tok))) : Option (Int × (List Tok)) :=
    (if x.2.1 < ((x.2.2.length : Nat) : Int) then (ix x.2.2 x.2.1 >>= fun e24 =>
    (impl_Blocks_1 e24 >>= fun r25 =>
    (if r25 = true then slices_DeleteFunc_impl_Tok_at_Blocks_1_L0 (x.1, (IntKind.i64.wrap (x.2.1 + 1)), x.2.2) else
    (gd ((0 : Int) ≤ x.1) >>= fun u28 =>
    (gd (x.1 < ((x.2.2.length : Nat) : Int)) >>= fun u30 =>
    slices_DeleteFunc_impl_Tok_at_Blocks_1_L0 ((IntKind.i64.wrap (x.1 + 1)), (IntKind.i64.wrap (x.2.1 + 1)), (x.2.2.set x.1.toNat e24))))))) else
    some (x.1, x.2.2))
  partial_fixpoint
def slices_DeleteFunc_impl_Tok_at_Blocks_1 (x : (List Tok)) : Option (List Tok) :=
    (slices_IndexFunc_impl_Tok_at_Blocks_1 x >>= fun r1 =>
    (gd (r1.2.length = x.length) >>= fun u3 =>
    (if r1.1 = (-1) then some r1.2 else
    (slices_DeleteFunc_impl_Tok_at_Blocks_1_L0 (r1.1, (IntKind.i64.wrap (r1.1 + 1)), r1.2) >>= fun s32 =>
    (gd ((0 : Int) ≤ s32.1) >>= fun u34 =>
    (gd (s32.1 ≤ ((s32.2.length : Nat) : Int)) >>= fun u36 =>
    some ((s32.2.take s32.1.toNat ++ List.replicate (s32.2.length - s32.1.toNat) (Tok.mk 0 (⟨⟨[]⟩⟩ : ByteArray) 0 0)).take s32.1.toNat)))))))
def slices_Clone_impl_Tok (x : (List Tok)) : Option (List Tok) :=
    (if x = [] then some [] else
    (gd (x.length ≤ grow) >>= fun u3 =>
    some x))
def impl_Blocks (x : (List Tok)) : Option Int :=
    (slices_Clone_impl_Tok x >>= fun r1 =>
    (slices_DeleteFunc_impl_Tok_at_Blocks_1 r1 >>= fun r2 =>
    some ((r2.length : Nat) : Int)))
def laws_eqTok (x : (Tok × Tok)) : Option Bool :=
    (if x.1.K = x.2.K then (if x.1.S = x.2.S then (if x.1.Line = x.2.Line then (if x.1.Col = x.2.Col then some true else
    some false) else
    some false) else
    some false) else
    some false)
def laws_eqTokS_L0 (x : ((List Tok) × (List Tok) × Int)) : Option (Sum Bool Unit) :=
    (if x.2.2 < ((x.1.length : Nat) : Int) then (ix x.1 x.2.2 >>= fun e8 =>
    (ix x.2.1 x.2.2 >>= fun e9 =>
    (laws_eqTok (e8, e9) >>= fun r10 =>
    (if r10 = true then laws_eqTokS_L0 (x.1, x.2.1, (IntKind.i64.wrap (x.2.2 + 1))) else
    some (.inl false))))) else
    some (.inr ()))
  partial_fixpoint
def laws_eqTokS (x : ((List Tok) × (List Tok))) : Option Bool :=
    (if ((x.1.length : Nat) : Int) = ((x.2.length : Nat) : Int) then (laws_eqTokS_L0 (x.1, x.2, 0) >>= fun s12 =>
    (match s12 with
    | .inl r13 => some r13
    | .inr v14 => some true)) else
    some false)
def laws_toTok (x : Tok) : Option Tok :=
    some x
def laws_toTokS_L0 (x : ((List Tok) × Int × (List Tok))) : Option (List Tok) :=
    (if x.2.1 < ((x.1.length : Nat) : Int) then (ix x.1 x.2.1 >>= fun e20 =>
    (laws_toTok e20 >>= fun r21 =>
    (gd ((0 : Int) ≤ x.2.1) >>= fun u23 =>
    (gd (x.2.1 < ((x.2.2.length : Nat) : Int)) >>= fun u25 =>
    laws_toTokS_L0 (x.1, (IntKind.i64.wrap (x.2.1 + 1)), (x.2.2.set x.2.1.toNat r21)))))) else
    some x.2.2)
  partial_fixpoint
def laws_toTokS (x : (List Tok)) : Option (List Tok) :=
    (gd ((0 : Int) ≤ ((x.length : Nat) : Int)) >>= fun u2 =>
    (gd (((x.length : Nat) : Int) ≤ (1099511627776 : Int)) >>= fun u4 =>
    (laws_toTokS_L0 (x, 0, (List.replicate x.length (Tok.mk 0 (⟨⟨[]⟩⟩ : ByteArray) 0 0))) >>= fun s27 =>
    some s27)))
def spec_l2Is (x : (Tok × Int × ByteArray)) : Option Bool :=
    (if x.1.K = x.2.1 then some (decide (x.1.S = x.2.2)) else
    some false)
def spec_Blocks_L0 (x : ((List Tok) × Int × Int)) : Option Int :=
    (if x.2.2 < ((x.1.length : Nat) : Int) then (ix x.1 x.2.2 >>= fun e7 =>
    (spec_l2Is (e7, 5, (⟨⟨[123]⟩⟩ : ByteArray)) >>= fun r8 =>
    (if r8 = true then (if e7.Line = 0 then spec_Blocks_L0 (x.1, (IntKind.i64.wrap (x.2.1 + 1)), (IntKind.i64.wrap (x.2.2 + 1))) else
    spec_Blocks_L0 (x.1, x.2.1, (IntKind.i64.wrap (x.2.2 + 1)))) else
    spec_Blocks_L0 (x.1, x.2.1, (IntKind.i64.wrap (x.2.2 + 1)))))) else
    some x.2.1)
  partial_fixpoint
def spec_Blocks (x : (List Tok)) : Option Int :=
    (spec_Blocks_L0 (x, 0, 0) >>= fun s11 =>
    some s11)
def laws_szTok (x : (Tok × Int)) : Option Int :=
    (if (IntKind.i64.wrap (x.2 - ((x.1.S.size : Nat) : Int))) < 0 then some (-1) else
    some (IntKind.i64.wrap (x.2 - ((x.1.S.size : Nat) : Int))))
def laws_szTokS_L0 (x : ((List Tok) × Int × Int)) : Option (Sum Int Int) :=
    (if x.2.2 < ((x.1.length : Nat) : Int) then (ix x.1 x.2.2 >>= fun e7 =>
    (laws_szTok (e7, x.2.1) >>= fun r8 =>
    (if r8 < 0 then some (.inl (-1)) else
    laws_szTokS_L0 (x.1, r8, (IntKind.i64.wrap (x.2.2 + 1)))))) else
    some (.inr x.2.1))
  partial_fixpoint
def laws_szTokS (x : ((List Tok) × Int)) : Option Int :=
    (if (IntKind.i64.wrap (x.2 - ((x.1.length : Nat) : Int))) < 0 then some (-1) else
    (laws_szTokS_L0 (x.1, (IntKind.i64.wrap (x.2 - ((x.1.length : Nat) : Int))), 0) >>= fun s10 =>
    (match s10 with
    | .inl r11 => some r11
    | .inr v12 => some v12)))
def laws_FnExactBlocks (x : (List Tok)) : Option Bool :=
    (laws_szTokS (x, 1048576) >>= fun r1 =>
    (if r1 < 0 then some true else
    (laws_toTokS x >>= fun r3 =>
    (spec_Blocks r3 >>= fun r4 =>
    (laws_toTokS x >>= fun r5 =>
    (impl_Blocks r5 >>= fun r6 =>
    (if r6 = r4 then (laws_toTokS x >>= fun r8 =>
    (laws_eqTokS (r5, r8) >>= fun r9 =>
    (if r9 = true then some true else
    some false))) else
    some false)))))))
end M
end W
