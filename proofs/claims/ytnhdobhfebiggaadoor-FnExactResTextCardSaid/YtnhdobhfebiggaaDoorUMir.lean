import Derived.Test.YtnhdobhfebiggaaDoorUTy
namespace W
open Go HL
set_option linter.unusedVariables false
namespace M
def strconv_Itoa (x : Int) : Option ByteArray := if -9223372036854775808 ≤ x ∧ x ≤ 9223372036854775807 then some ⟨(Lib.itoa x).toArray⟩ else none
def impl_in (x : (Int × Int × Int)) : Option Bool :=
    (if x.2.1 ≤ x.1 then some (decide (x.1 ≤ x.2.2)) else
    some false)
def internal_stringslite_HasPrefix (x : (ByteArray × ByteArray)) : Option Bool :=
    (if ((x.2.size : Nat) : Int) ≤ ((x.1.size : Nat) : Int) then (gd ((0 : Int) ≤ 0) >>= fun u3 =>
    (gd ((0 : Int) ≤ ((x.2.size : Nat) : Int)) >>= fun u5 =>
    some (decide ((x.1.extract (0 : Int).toNat ((x.2.size : Nat) : Int).toNat) = x.2)))) else
    some false)
def strings_HasPrefix (x : (ByteArray × ByteArray)) : Option Bool :=
    (internal_stringslite_HasPrefix (x.1, x.2) >>= fun r1 =>
    some r1)
mutual
def impl_resText (x : (Res × Int)) : Option (ByteArray × Bool) :=
    (if 6 < x.2 then some ((⟨⟨[]⟩⟩ : ByteArray), false) else
    (if x.1.K = 1 then (strconv_Itoa x.1.N >>= fun r3 =>
    (impl_in (x.1.N, (-999999999), 999999999) >>= fun r4 =>
    some (r3, r4))) else
    (if x.1.K = 3 then some ((⟨⟨[60, 102, 117, 110, 99, 116, 105, 111, 110, 62]⟩⟩ : ByteArray), true) else
    (if x.1.K = 4 then some ((⟨⟨[60, 102, 97, 105, 108, 62]⟩⟩ : ByteArray), true) else
    (if x.1.K = 5 then some ((⟨⟨[60, 104, 111, 108, 101, 62]⟩⟩ : ByteArray), true) else
    (if x.1.K = 6 then some ((⟨⟨[60, 102, 117, 101, 108, 62]⟩⟩ : ByteArray), true) else
    (if x.1.K = 7 then some ((⟨⟨[46, 46, 46]⟩⟩ : ByteArray), true) else
    (if x.1.K = 2 then (impl_resText_L0 (x.2, x.1, x.1.S, 0) >>= fun s65 =>
    (match s65 with
    | .inl r66 => some r66
    | .inr v67 => some (v67, true))) else
    some ((⟨⟨[]⟩⟩ : ByteArray), false)))))))))
  partial_fixpoint
def impl_resText_L0 (x : (Int × Res × ByteArray × Int)) : Option (Sum (ByteArray × Bool) ByteArray) :=
    (if x.2.2.2 < ((x.2.1.L.length : Nat) : Int) then (ix x.2.1.L x.2.2.2 >>= fun e39 =>
    (impl_resText (e39, (IntKind.i64.wrap (x.1 + 1))) >>= fun r40 =>
    (if r40.2 = true then (if 0 < ((e39.L.length : Nat) : Int) then (gd ((⟨⟨[40]⟩⟩ : ByteArray).size + r40.1.size ≤ lim) >>= fun u44 =>
    (gd (((⟨⟨[40]⟩⟩ : ByteArray) ++ r40.1).size + (⟨⟨[41]⟩⟩ : ByteArray).size ≤ lim) >>= fun u46 =>
    (gd ((⟨⟨[32]⟩⟩ : ByteArray).size + (((⟨⟨[40]⟩⟩ : ByteArray) ++ r40.1) ++ (⟨⟨[41]⟩⟩ : ByteArray)).size ≤ lim) >>= fun u48 =>
    (gd (x.2.2.1.size + ((⟨⟨[32]⟩⟩ : ByteArray) ++ (((⟨⟨[40]⟩⟩ : ByteArray) ++ r40.1) ++ (⟨⟨[41]⟩⟩ : ByteArray))).size ≤ lim) >>= fun u50 =>
    impl_resText_L0 (x.1, x.2.1, (x.2.2.1 ++ ((⟨⟨[32]⟩⟩ : ByteArray) ++ (((⟨⟨[40]⟩⟩ : ByteArray) ++ r40.1) ++ (⟨⟨[41]⟩⟩ : ByteArray)))), (IntKind.i64.wrap (x.2.2.2 + 1))))))) else
    (strings_HasPrefix (r40.1, (⟨⟨[45]⟩⟩ : ByteArray)) >>= fun r51 =>
    (if r51 = true then (gd ((⟨⟨[40]⟩⟩ : ByteArray).size + r40.1.size ≤ lim) >>= fun u54 =>
    (gd (((⟨⟨[40]⟩⟩ : ByteArray) ++ r40.1).size + (⟨⟨[41]⟩⟩ : ByteArray).size ≤ lim) >>= fun u56 =>
    (gd ((⟨⟨[32]⟩⟩ : ByteArray).size + (((⟨⟨[40]⟩⟩ : ByteArray) ++ r40.1) ++ (⟨⟨[41]⟩⟩ : ByteArray)).size ≤ lim) >>= fun u58 =>
    (gd (x.2.2.1.size + ((⟨⟨[32]⟩⟩ : ByteArray) ++ (((⟨⟨[40]⟩⟩ : ByteArray) ++ r40.1) ++ (⟨⟨[41]⟩⟩ : ByteArray))).size ≤ lim) >>= fun u60 =>
    impl_resText_L0 (x.1, x.2.1, (x.2.2.1 ++ ((⟨⟨[32]⟩⟩ : ByteArray) ++ (((⟨⟨[40]⟩⟩ : ByteArray) ++ r40.1) ++ (⟨⟨[41]⟩⟩ : ByteArray)))), (IntKind.i64.wrap (x.2.2.2 + 1))))))) else
    (gd ((⟨⟨[32]⟩⟩ : ByteArray).size + r40.1.size ≤ lim) >>= fun u62 =>
    (gd (x.2.2.1.size + ((⟨⟨[32]⟩⟩ : ByteArray) ++ r40.1).size ≤ lim) >>= fun u64 =>
    impl_resText_L0 (x.1, x.2.1, (x.2.2.1 ++ ((⟨⟨[32]⟩⟩ : ByteArray) ++ r40.1)), (IntKind.i64.wrap (x.2.2.2 + 1)))))))) else
    some (.inl ((⟨⟨[]⟩⟩ : ByteArray), false))))) else
    some (.inr x.2.2.1))
  partial_fixpoint
end
def impl_ResText (x : Res) : Option ByteArray :=
    (impl_resText (x, 1) >>= fun r1 =>
    (if r1.2 = true then some r1.1 else
    some (⟨⟨[]⟩⟩ : ByteArray)))
mutual
def laws_szRes (x : (Res × Int)) : Option Int :=
    (if (IntKind.i64.wrap (x.2 - ((x.1.S.size : Nat) : Int))) < 0 then some (-1) else
    (laws_szResS (x.1.L, (IntKind.i64.wrap (x.2 - ((x.1.S.size : Nat) : Int)))) >>= fun r2 =>
    (if r2 < 0 then some (-1) else
    some r2)))
  partial_fixpoint
def laws_szResS (x : ((List Res) × Int)) : Option Int :=
    (if (IntKind.i64.wrap (x.2 - ((x.1.length : Nat) : Int))) < 0 then some (-1) else
    (laws_szResS_L0 (x.1, (IntKind.i64.wrap (x.2 - ((x.1.length : Nat) : Int))), 0) >>= fun s10 =>
    (match s10 with
    | .inl r11 => some r11
    | .inr v12 => some v12)))
  partial_fixpoint
def laws_szResS_L0 (x : ((List Res) × Int × Int)) : Option (Sum Int Int) :=
    (if x.2.2 < ((x.1.length : Nat) : Int) then (ix x.1 x.2.2 >>= fun e7 =>
    (laws_szRes (e7, x.2.1) >>= fun r8 =>
    (if r8 < 0 then some (.inl (-1)) else
    laws_szResS_L0 (x.1, r8, (IntKind.i64.wrap (x.2.2 + 1)))))) else
    some (.inr x.2.1))
  partial_fixpoint
end
mutual
def laws_eqRes (x : (Res × Res)) : Option Bool :=
    (if x.1.K = x.2.K then (if x.1.S = x.2.S then (if x.1.N = x.2.N then (laws_eqResS (x.1.L, x.2.L) >>= fun r4 =>
    (if r4 = true then some true else
    some false)) else
    some false) else
    some false) else
    some false)
  partial_fixpoint
def laws_eqResS (x : ((List Res) × (List Res))) : Option Bool :=
    (if ((x.1.length : Nat) : Int) = ((x.2.length : Nat) : Int) then (laws_eqResS_L0 (x.1, x.2, 0) >>= fun s12 =>
    (match s12 with
    | .inl r13 => some r13
    | .inr v14 => some true)) else
    some false)
  partial_fixpoint
def laws_eqResS_L0 (x : ((List Res) × (List Res) × Int)) : Option (Sum Bool Unit) :=
    (if x.2.2 < ((x.1.length : Nat) : Int) then (ix x.1 x.2.2 >>= fun e8 =>
    (ix x.2.1 x.2.2 >>= fun e9 =>
    (laws_eqRes (e8, e9) >>= fun r10 =>
    (if r10 = true then laws_eqResS_L0 (x.1, x.2.1, (IntKind.i64.wrap (x.2.2 + 1))) else
    some (.inl false))))) else
    some (.inr ()))
  partial_fixpoint
end
def spec_l1In (x : (Int × Int × Int)) : Option Bool :=
    (if x.2.1 ≤ x.1 then some (decide (x.1 ≤ x.2.2)) else
    some false)
def spec_l5Num (x : Int) : Option ByteArray :=
    (if x < 10 then some (bsOf ([(IntKind.u8.wrap (IntKind.i64.wrap (48 + x)))])) else
    (spec_l5Num (IntKind.i64.wrap (Int.tdiv x 10)) >>= fun r2 =>
    (gd (r2.size + (bsOf ([(IntKind.u8.wrap (IntKind.i64.wrap (48 + (Int.tmod x 10))))])).size ≤ lim) >>= fun u4 =>
    some (r2 ++ (bsOf ([(IntKind.u8.wrap (IntKind.i64.wrap (48 + (Int.tmod x 10))))]))))))
  partial_fixpoint
def spec_l13Num (x : Int) : Option ByteArray :=
    (if x < 0 then (if (-1000000000) < x then (spec_l5Num (IntKind.i64.wrap (0 - x)) >>= fun r3 =>
    (gd ((⟨⟨[45]⟩⟩ : ByteArray).size + r3.size ≤ lim) >>= fun u5 =>
    some ((⟨⟨[45]⟩⟩ : ByteArray) ++ r3))) else
    some (⟨⟨[45]⟩⟩ : ByteArray)) else
    (spec_l5Num x >>= fun r6 =>
    some r6))
mutual
def spec_l13Text (x : (Res × Int)) : Option (ByteArray × Bool) :=
    (if 6 < x.2 then some ((⟨⟨[]⟩⟩ : ByteArray), false) else
    (if x.1.K = 1 then (spec_l13Num x.1.N >>= fun r3 =>
    (spec_l1In (x.1.N, (-999999999), 999999999) >>= fun r4 =>
    some (r3, r4))) else
    (if x.1.K = 3 then some ((⟨⟨[60, 102, 117, 110, 99, 116, 105, 111, 110, 62]⟩⟩ : ByteArray), true) else
    (if x.1.K = 4 then some ((⟨⟨[60, 102, 97, 105, 108, 62]⟩⟩ : ByteArray), true) else
    (if x.1.K = 5 then some ((⟨⟨[60, 104, 111, 108, 101, 62]⟩⟩ : ByteArray), true) else
    (if x.1.K = 6 then some ((⟨⟨[60, 102, 117, 101, 108, 62]⟩⟩ : ByteArray), true) else
    (if x.1.K = 7 then some ((⟨⟨[46, 46, 46]⟩⟩ : ByteArray), true) else
    (if x.1.K = 2 then (spec_l13Text_L0 (x.2, x.1, x.1.S, 0) >>= fun s75 =>
    (match s75 with
    | .inl r76 => some r76
    | .inr v77 => some (v77, true))) else
    some ((⟨⟨[]⟩⟩ : ByteArray), false)))))))))
  partial_fixpoint
def spec_l13Text_L0 (x : (Int × Res × ByteArray × Int)) : Option (Sum (ByteArray × Bool) ByteArray) :=
    (if x.2.2.2 < ((x.2.1.L.length : Nat) : Int) then (ix x.2.1.L x.2.2.2 >>= fun e44 =>
    (spec_l13Text (e44, (IntKind.i64.wrap (x.1 + 1))) >>= fun r45 =>
    (if r45.2 = true then (if 0 < ((e44.L.length : Nat) : Int) then (gd ((⟨⟨[40]⟩⟩ : ByteArray).size + r45.1.size ≤ lim) >>= fun u49 =>
    (gd (((⟨⟨[40]⟩⟩ : ByteArray) ++ r45.1).size + (⟨⟨[41]⟩⟩ : ByteArray).size ≤ lim) >>= fun u51 =>
    (gd (x.2.2.1.size + (⟨⟨[32]⟩⟩ : ByteArray).size ≤ lim) >>= fun u53 =>
    (gd ((x.2.2.1 ++ (⟨⟨[32]⟩⟩ : ByteArray)).size + (((⟨⟨[40]⟩⟩ : ByteArray) ++ r45.1) ++ (⟨⟨[41]⟩⟩ : ByteArray)).size ≤ lim) >>= fun u55 =>
    spec_l13Text_L0 (x.1, x.2.1, ((x.2.2.1 ++ (⟨⟨[32]⟩⟩ : ByteArray)) ++ (((⟨⟨[40]⟩⟩ : ByteArray) ++ r45.1) ++ (⟨⟨[41]⟩⟩ : ByteArray))), (IntKind.i64.wrap (x.2.2.2 + 1))))))) else
    (if 0 < ((r45.1.size : Nat) : Int) then (bx r45.1 0 >>= fun c57 =>
    (if c57 = 45 then (gd ((⟨⟨[40]⟩⟩ : ByteArray).size + r45.1.size ≤ lim) >>= fun u60 =>
    (gd (((⟨⟨[40]⟩⟩ : ByteArray) ++ r45.1).size + (⟨⟨[41]⟩⟩ : ByteArray).size ≤ lim) >>= fun u62 =>
    (gd (x.2.2.1.size + (⟨⟨[32]⟩⟩ : ByteArray).size ≤ lim) >>= fun u64 =>
    (gd ((x.2.2.1 ++ (⟨⟨[32]⟩⟩ : ByteArray)).size + (((⟨⟨[40]⟩⟩ : ByteArray) ++ r45.1) ++ (⟨⟨[41]⟩⟩ : ByteArray)).size ≤ lim) >>= fun u66 =>
    spec_l13Text_L0 (x.1, x.2.1, ((x.2.2.1 ++ (⟨⟨[32]⟩⟩ : ByteArray)) ++ (((⟨⟨[40]⟩⟩ : ByteArray) ++ r45.1) ++ (⟨⟨[41]⟩⟩ : ByteArray))), (IntKind.i64.wrap (x.2.2.2 + 1))))))) else
    (gd (x.2.2.1.size + (⟨⟨[32]⟩⟩ : ByteArray).size ≤ lim) >>= fun u68 =>
    (gd ((x.2.2.1 ++ (⟨⟨[32]⟩⟩ : ByteArray)).size + r45.1.size ≤ lim) >>= fun u70 =>
    spec_l13Text_L0 (x.1, x.2.1, ((x.2.2.1 ++ (⟨⟨[32]⟩⟩ : ByteArray)) ++ r45.1), (IntKind.i64.wrap (x.2.2.2 + 1))))))) else
    (gd (x.2.2.1.size + (⟨⟨[32]⟩⟩ : ByteArray).size ≤ lim) >>= fun u72 =>
    (gd ((x.2.2.1 ++ (⟨⟨[32]⟩⟩ : ByteArray)).size + r45.1.size ≤ lim) >>= fun u74 =>
    spec_l13Text_L0 (x.1, x.2.1, ((x.2.2.1 ++ (⟨⟨[32]⟩⟩ : ByteArray)) ++ r45.1), (IntKind.i64.wrap (x.2.2.2 + 1))))))) else
    some (.inl ((⟨⟨[]⟩⟩ : ByteArray), false))))) else
    some (.inr x.2.2.1))
  partial_fixpoint
end
def spec_ResText (x : Res) : Option ByteArray :=
    (spec_l13Text (x, 1) >>= fun r1 =>
    (if r1.2 = true then some r1.1 else
    some (⟨⟨[]⟩⟩ : ByteArray)))
mutual
def laws_toRes (x : Res) : Option Res :=
    (laws_toResS x.L >>= fun r1 =>
    some (Res.mk x.K x.S x.N r1))
  partial_fixpoint
def laws_toResS (x : (List Res)) : Option (List Res) :=
    (gd ((0 : Int) ≤ ((x.length : Nat) : Int)) >>= fun u2 =>
    (gd (((x.length : Nat) : Int) ≤ (1099511627776 : Int)) >>= fun u4 =>
    (laws_toResS_L0 (x, 0, (List.replicate x.length (Res.mk 0 (⟨⟨[]⟩⟩ : ByteArray) 0 []))) >>= fun s27 =>
    some s27)))
  partial_fixpoint
def laws_toResS_L0 (x : ((List Res) × Int × (List Res))) : Option (List Res) :=
    (if x.2.1 < ((x.1.length : Nat) : Int) then (ix x.1 x.2.1 >>= fun e20 =>
    (laws_toRes e20 >>= fun r21 =>
    (gd ((0 : Int) ≤ x.2.1) >>= fun u23 =>
    (gd (x.2.1 < ((x.2.2.length : Nat) : Int)) >>= fun u25 =>
    laws_toResS_L0 (x.1, (IntKind.i64.wrap (x.2.1 + 1)), (x.2.2.set x.2.1.toNat r21)))))) else
    some x.2.2)
  partial_fixpoint
end
def laws_FnExactResText (x : Res) : Option Bool :=
    (laws_szRes (x, 1048576) >>= fun r1 =>
    (if r1 < 0 then some true else
    (laws_toRes x >>= fun r3 =>
    (spec_ResText r3 >>= fun r4 =>
    (laws_toRes x >>= fun r5 =>
    (impl_ResText r5 >>= fun r6 =>
    (if r6 = r4 then (laws_toRes x >>= fun r8 =>
    (laws_eqRes (r5, r8) >>= fun r9 =>
    (if r9 = true then some true else
    some false))) else
    some false)))))))
end M
end W
