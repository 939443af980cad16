import Derived.Test.YtnhdobhfebiggaaXTy
namespace W
open Go HL
set_option linter.unusedVariables false
namespace M
def impl_isLetter (x : Int) : Option Bool :=
    (if 97 ≤ x then (if x ≤ 122 then some true else
    (if 65 ≤ x then some (decide (x ≤ 90)) else
    some false)) else
    (if 65 ≤ x then some (decide (x ≤ 90)) else
    some false))
def impl_isDigit (x : Int) : Option Bool :=
    (if 48 ≤ x then some (decide (x ≤ 57)) else
    some false)
def impl_in (x : (Int × Int × Int)) : Option Bool :=
    (if x.2.1 ≤ x.1 then some (decide (x.1 ≤ x.2.2)) else
    some false)
def impl_wordLike_L0 (x : (ByteArray × Int)) : Option (Sum Bool Unit) :=
    (if x.2 < ((x.1.size : Nat) : Int) then (bx x.1 x.2 >>= fun c9 =>
    (impl_isLetter c9 >>= fun r10 =>
    (if r10 = true then impl_wordLike_L0 (x.1, (IntKind.i64.wrap (x.2 + 1))) else
    (if x.2 = 0 then some (.inl false) else
    (impl_isDigit c9 >>= fun r13 =>
    (if r13 = true then impl_wordLike_L0 (x.1, (IntKind.i64.wrap (x.2 + 1))) else
    some (.inl false))))))) else
    some (.inr ()))
  partial_fixpoint
def impl_wordLike (x : ByteArray) : Option Bool :=
    (impl_wordLike_L0 (x, 0) >>= fun s15 =>
    (match s15 with
    | .inl r16 => some r16
    | .inr v17 => (impl_in (((x.size : Nat) : Int), 1, 8) >>= fun r18 =>
    some r18)))
def impl_GreatOk (x : ByteArray) : Option Bool :=
    (impl_wordLike x >>= fun r1 =>
    (if r1 = true then (bx x 0 >>= fun c3 =>
    some (decide (c3 ≤ 90))) else
    some false))
def impl_passed_1 (x : Int) : Option Bool :=
    some (!(decide (x = 10)))
def impl_runLen_at_passed_1_L0 (x : (ByteArray × Int)) : Option Int :=
    (if x.2 < ((x.1.size : Nat) : Int) then (bx x.1 x.2 >>= fun c6 =>
    (impl_passed_1 c6 >>= fun r7 =>
    (if r7 = true then impl_runLen_at_passed_1_L0 (x.1, (IntKind.i64.wrap (x.2 + 1))) else
    some x.2))) else
    some x.2)
  partial_fixpoint
def impl_runLen_at_passed_1 (x : ByteArray) : Option Int :=
    (impl_runLen_at_passed_1_L0 (x, 0) >>= fun s9 =>
    some s9)
def internal_stringslite_HasPrefix (x : (ByteArray × ByteArray)) : Option Bool :=
    (if ((x.2.size : Nat) : Int) ≤ ((x.1.size : Nat) : Int) then (gd ((0 : Int) ≤ 0) >>= fun u3 =>
    (gd ((0 : Int) ≤ ((x.2.size : Nat) : Int)) >>= fun u5 =>
    some (decide ((x.1.extract (0 : Int).toNat ((x.2.size : Nat) : Int).toNat) = x.2)))) else
    some false)
def strings_HasPrefix (x : (ByteArray × ByteArray)) : Option Bool :=
    (internal_stringslite_HasPrefix (x.1, x.2) >>= fun r1 =>
    some r1)
def impl_passed (x : ByteArray) : Option Int :=
    (bx x 0 >>= fun c1 =>
    (if c1 = 32 then some 1 else
    (if c1 = 10 then some 1 else
    (strings_HasPrefix (x, (⟨⟨[45, 45]⟩⟩ : ByteArray)) >>= fun r4 =>
    (if r4 = true then (impl_runLen_at_passed_1 x >>= fun r6 =>
    some r6) else
    some 0)))))
def slices_Index_byte_L0 (x : ((List Int) × Int × Int)) : Option (Sum Int Unit) :=
    (if x.2.2 < ((x.1.length : Nat) : Int) then (ix x.1 x.2.2 >>= fun e5 =>
    (if x.2.1 = e5 then some (.inl x.2.2) else
    slices_Index_byte_L0 (x.1, x.2.1, (IntKind.i64.wrap (x.2.2 + 1))))) else
    some (.inr ()))
  partial_fixpoint
def slices_Index_byte (x : ((List Int) × Int)) : Option Int :=
    (slices_Index_byte_L0 (x.1, x.2, 0) >>= fun s7 =>
    (match s7 with
    | .inl r8 => some r8
    | .inr v9 => some (-1)))
def slices_Contains_byte (x : ((List Int) × Int)) : Option Bool :=
    (slices_Index_byte (x.1, x.2) >>= fun r1 =>
    some (decide (0 ≤ r1)))
def impl_numberLike (x : ByteArray) : Option Bool :=
    (impl_in (((x.size : Nat) : Int), 1, 6) >>= fun r1 =>
    (if r1 = true then (bx x 0 >>= fun c3 =>
    (if c3 = 48 then some (decide (((x.size : Nat) : Int) = 1)) else
    some true)) else
    some false))
def slices_Index_string_L0 (x : ((List ByteArray) × ByteArray × Int)) : Option (Sum Int Unit) :=
    (if x.2.2 < ((x.1.length : Nat) : Int) then (ix x.1 x.2.2 >>= fun e5 =>
    (if x.2.1 = e5 then some (.inl x.2.2) else
    slices_Index_string_L0 (x.1, x.2.1, (IntKind.i64.wrap (x.2.2 + 1))))) else
    some (.inr ()))
  partial_fixpoint
def slices_Index_string (x : ((List ByteArray) × ByteArray)) : Option Int :=
    (slices_Index_string_L0 (x.1, x.2, 0) >>= fun s7 =>
    (match s7 with
    | .inl r8 => some r8
    | .inr v9 => some (-1)))
def slices_Contains_string (x : ((List ByteArray) × ByteArray)) : Option Bool :=
    (slices_Index_string (x.1, x.2) >>= fun r1 =>
    some (decide (0 ≤ r1)))
def impl_words (x : Unit) : Option (List ByteArray) :=
    some ([(⟨⟨[108, 101, 116]⟩⟩ : ByteArray), (⟨⟨[105, 110]⟩⟩ : ByteArray), (⟨⟨[119, 104, 101, 114, 101]⟩⟩ : ByteArray), (⟨⟨[99, 97, 115, 101]⟩⟩ : ByteArray), (⟨⟨[111, 102]⟩⟩ : ByteArray), (⟨⟨[105, 102]⟩⟩ : ByteArray), (⟨⟨[116, 104, 101, 110]⟩⟩ : ByteArray), (⟨⟨[101, 108, 115, 101]⟩⟩ : ByteArray), (⟨⟨[100, 97, 116, 97]⟩⟩ : ByteArray)])
def impl_NameOk (x : ByteArray) : Option Bool :=
    (impl_wordLike x >>= fun r1 =>
    (if r1 = true then (bx x 0 >>= fun c3 =>
    (if 97 ≤ c3 then (impl_words () >>= fun r5 =>
    (slices_Contains_string (r5, x) >>= fun r6 =>
    some (!r6))) else
    some false)) else
    some false))
def impl_nextTok_1 (x : Int) : Option Bool :=
    (impl_isLetter x >>= fun r1 =>
    (if r1 = true then some true else
    (impl_isDigit x >>= fun r3 =>
    some r3)))
def impl_runLen_at_nextTok_1_L0 (x : (ByteArray × Int)) : Option Int :=
    (if x.2 < ((x.1.size : Nat) : Int) then (bx x.1 x.2 >>= fun c6 =>
    (impl_nextTok_1 c6 >>= fun r7 =>
    (if r7 = true then impl_runLen_at_nextTok_1_L0 (x.1, (IntKind.i64.wrap (x.2 + 1))) else
    some x.2))) else
    some x.2)
  partial_fixpoint
def impl_runLen_at_nextTok_1 (x : ByteArray) : Option Int :=
    (impl_runLen_at_nextTok_1_L0 (x, 0) >>= fun s9 =>
    some s9)
def impl_runLen_at_isDigit_L0 (x : (ByteArray × Int)) : Option Int :=
    (if x.2 < ((x.1.size : Nat) : Int) then (bx x.1 x.2 >>= fun c6 =>
    (impl_isDigit c6 >>= fun r7 =>
    (if r7 = true then impl_runLen_at_isDigit_L0 (x.1, (IntKind.i64.wrap (x.2 + 1))) else
    some x.2))) else
    some x.2)
  partial_fixpoint
def impl_runLen_at_isDigit (x : ByteArray) : Option Int :=
    (impl_runLen_at_isDigit_L0 (x, 0) >>= fun s9 =>
    some s9)
def impl_nextTok (x : ByteArray) : Option (Tok × Bool) :=
    (bx x 0 >>= fun c1 =>
    (impl_isLetter c1 >>= fun r2 =>
    (if r2 = true then (impl_runLen_at_nextTok_1 x >>= fun r4 =>
    (gd ((0 : Int) ≤ 0) >>= fun u6 =>
    (gd ((0 : Int) ≤ r4) >>= fun u8 =>
    (gd (r4 ≤ ((x.size : Nat) : Int)) >>= fun u10 =>
    (impl_words () >>= fun r11 =>
    (slices_Contains_string (r11, (x.extract (0 : Int).toNat r4.toNat)) >>= fun r12 =>
    (if r12 = true then some ((Tok.mk 4 (x.extract (0 : Int).toNat r4.toNat) 0 0), true) else
    (impl_NameOk (x.extract (0 : Int).toNat r4.toNat) >>= fun r14 =>
    (if r14 = true then some ((Tok.mk 1 (x.extract (0 : Int).toNat r4.toNat) 0 0), true) else
    (impl_GreatOk (x.extract (0 : Int).toNat r4.toNat) >>= fun r16 =>
    some ((Tok.mk 2 (x.extract (0 : Int).toNat r4.toNat) 0 0), r16))))))))))) else
    (impl_isDigit c1 >>= fun r17 =>
    (if r17 = true then (impl_runLen_at_isDigit x >>= fun r19 =>
    (gd ((0 : Int) ≤ 0) >>= fun u21 =>
    (gd ((0 : Int) ≤ r19) >>= fun u23 =>
    (gd (r19 ≤ ((x.size : Nat) : Int)) >>= fun u25 =>
    (impl_numberLike (x.extract (0 : Int).toNat r19.toNat) >>= fun r26 =>
    some ((Tok.mk 3 (x.extract (0 : Int).toNat r19.toNat) 0 0), r26)))))) else
    (strings_HasPrefix (x, (⟨⟨[45, 62]⟩⟩ : ByteArray)) >>= fun r27 =>
    (if r27 = true then (gd ((0 : Int) ≤ 0) >>= fun u30 =>
    (gd ((0 : Int) ≤ 2) >>= fun u32 =>
    (gd (2 ≤ ((x.size : Nat) : Int)) >>= fun u34 =>
    some ((Tok.mk 5 (x.extract (0 : Int).toNat (2 : Int).toNat) 0 0), true)))) else
    (strings_HasPrefix (x, (⟨⟨[61, 61]⟩⟩ : ByteArray)) >>= fun r35 =>
    (if r35 = true then (gd ((0 : Int) ≤ 0) >>= fun u38 =>
    (gd ((0 : Int) ≤ 2) >>= fun u40 =>
    (gd (2 ≤ ((x.size : Nat) : Int)) >>= fun u42 =>
    some ((Tok.mk 5 (x.extract (0 : Int).toNat (2 : Int).toNat) 0 0), true)))) else
    (gd ((0 : Int) ≤ 0) >>= fun u44 =>
    (gd ((0 : Int) ≤ 1) >>= fun u46 =>
    (gd (1 ≤ ((x.size : Nat) : Int)) >>= fun u48 =>
    (slices_Contains_byte ([40, 41, 123, 125, 59, 61, 92, 124, 43, 45, 42, 60, 95], c1) >>= fun r49 =>
    some ((Tok.mk 5 (x.extract (0 : Int).toNat (1 : Int).toNat) 0 0), r49))))))))))))))
def impl_Lex_L0 (x : (ByteArray × (List Tok) × Int × Int × Int)) : Option (Sum ((List Tok) × Bool) ((List Tok) × Int × Int × Int)) :=
    (if x.2.2.2.2 < ((x.1.size : Nat) : Int) then (gd ((0 : Int) ≤ x.2.2.2.2) >>= fun u19 =>
    (gd ((x.2.2.2.2 : Int) ≤ ((x.1.size : Nat) : Int)) >>= fun u21 =>
    (gd (((x.1.size : Nat) : Int) ≤ ((x.1.size : Nat) : Int)) >>= fun u23 =>
    (impl_passed (x.1.extract x.2.2.2.2.toNat ((x.1.size : Nat) : Int).toNat) >>= fun r24 =>
    (if 0 < r24 then (bx x.1 x.2.2.2.2 >>= fun c26 =>
    (if c26 = 10 then impl_Lex_L0 (x.1, x.2.1, (IntKind.i64.wrap (x.2.2.1 + 1)), (IntKind.i64.wrap (x.2.2.2.2 + 1)), (IntKind.i64.wrap (x.2.2.2.2 + r24))) else
    impl_Lex_L0 (x.1, x.2.1, x.2.2.1, x.2.2.2.1, (IntKind.i64.wrap (x.2.2.2.2 + r24))))) else
    (impl_nextTok (x.1.extract x.2.2.2.2.toNat ((x.1.size : Nat) : Int).toNat) >>= fun r28 =>
    (if r28.2 = true then (gd (x.2.1.length + 1 ≤ grow) >>= fun u31 =>
    impl_Lex_L0 (x.1, (x.2.1 ++ [(Tok.mk r28.1.K r28.1.S x.2.2.1 (IntKind.i64.wrap ((IntKind.i64.wrap (x.2.2.2.2 - x.2.2.2.1)) + 1)))]), x.2.2.1, x.2.2.2.1, (IntKind.i64.wrap (x.2.2.2.2 + ((r28.1.S.size : Nat) : Int))))) else
    some (.inl ([], false))))))))) else
    some (.inr (x.2.1, x.2.2.1, x.2.2.2.1, x.2.2.2.2)))
  partial_fixpoint
def impl_Lex (x : ByteArray) : Option ((List Tok) × Bool) :=
    (if 1500 < ((x.size : Nat) : Int) then some ([], false) else
    (impl_Lex_L0 (x, [], 1, 0, 0) >>= fun s32 =>
    (match s32 with
    | .inl r33 => some r33
    | .inr v34 => (gd (v34.1.length + 1 ≤ grow) >>= fun u36 =>
    (if 400 < (((v34.1.length + 1) : Nat) : Int) then some ([], false) else
    some ((v34.1 ++ [(Tok.mk 6 (⟨⟨[]⟩⟩ : ByteArray) v34.2.1 (IntKind.i64.wrap ((IntKind.i64.wrap (v34.2.2.2 - v34.2.2.1)) + 1)))]), true))))))
def spec_l1In (x : (Int × Int × Int)) : Option Bool :=
    (if x.2.1 ≤ x.1 then some (decide (x.1 ≤ x.2.2)) else
    some false)
def spec_l1Small (x : Int) : Option Bool :=
    (spec_l1In ((IntKind.i64.wrap x), 97, 122) >>= fun r1 =>
    some r1)
def spec_l1Digit (x : Int) : Option Bool :=
    (spec_l1In ((IntKind.i64.wrap x), 48, 57) >>= fun r1 =>
    some r1)
def spec_l1Large (x : Int) : Option Bool :=
    (spec_l1In ((IntKind.i64.wrap x), 65, 90) >>= fun r1 =>
    some r1)
def spec_l1Letter (x : Int) : Option Bool :=
    (spec_l1Small x >>= fun r1 =>
    (if r1 = true then some true else
    (spec_l1Large x >>= fun r3 =>
    (if r3 = true then some true else
    (spec_l1Digit x >>= fun r5 =>
    some r5)))))
def spec_l1NumOk_L0 (x : (ByteArray × Int)) : Option (Sum Bool Unit) :=
    (if x.2 < ((x.1.size : Nat) : Int) then (bx x.1 x.2 >>= fun c6 =>
    (spec_l1Digit c6 >>= fun r7 =>
    (if r7 = true then spec_l1NumOk_L0 (x.1, (IntKind.i64.wrap (x.2 + 1))) else
    some (.inl false)))) else
    some (.inr ()))
  partial_fixpoint
def spec_l1NumOk (x : ByteArray) : Option Bool :=
    (spec_l1NumOk_L0 (x, 0) >>= fun s9 =>
    (match s9 with
    | .inl r10 => some r10
    | .inr v11 => (spec_l1In (((x.size : Nat) : Int), 1, 6) >>= fun r12 =>
    (if r12 = true then (if ((x.size : Nat) : Int) = 1 then some true else
    (bx x 0 >>= fun c15 =>
    some (!(decide (c15 = 48))))) else
    some false))))
def spec_l1Has_L0 (x : ((List ByteArray) × ByteArray × Int)) : Option (Sum Bool Unit) :=
    (if x.2.2 < ((x.1.length : Nat) : Int) then (ix x.1 x.2.2 >>= fun e5 =>
    (if e5 = x.2.1 then some (.inl true) else
    spec_l1Has_L0 (x.1, x.2.1, (IntKind.i64.wrap (x.2.2 + 1))))) else
    some (.inr ()))
  partial_fixpoint
def spec_l1Has (x : ((List ByteArray) × ByteArray)) : Option Bool :=
    (spec_l1Has_L0 (x.1, x.2, 0) >>= fun s7 =>
    (match s7 with
    | .inl r8 => some r8
    | .inr v9 => some false))
def spec_l1IsWord (x : ByteArray) : Option Bool :=
    (spec_l1Has ([(⟨⟨[108, 101, 116]⟩⟩ : ByteArray), (⟨⟨[105, 110]⟩⟩ : ByteArray), (⟨⟨[119, 104, 101, 114, 101]⟩⟩ : ByteArray), (⟨⟨[99, 97, 115, 101]⟩⟩ : ByteArray), (⟨⟨[111, 102]⟩⟩ : ByteArray), (⟨⟨[105, 102]⟩⟩ : ByteArray), (⟨⟨[116, 104, 101, 110]⟩⟩ : ByteArray), (⟨⟨[101, 108, 115, 101]⟩⟩ : ByteArray), (⟨⟨[100, 97, 116, 97]⟩⟩ : ByteArray)], x) >>= fun r1 =>
    some r1)
def spec_l1Letters_L0 (x : (ByteArray × Int)) : Option (Sum Bool Unit) :=
    (if x.2 < ((x.1.size : Nat) : Int) then (bx x.1 x.2 >>= fun c6 =>
    (spec_l1Letter c6 >>= fun r7 =>
    (if r7 = true then spec_l1Letters_L0 (x.1, (IntKind.i64.wrap (x.2 + 1))) else
    some (.inl false)))) else
    some (.inr ()))
  partial_fixpoint
def spec_l1Letters (x : ByteArray) : Option Bool :=
    (spec_l1Letters_L0 (x, 0) >>= fun s9 =>
    (match s9 with
    | .inl r10 => some r10
    | .inr v11 => (spec_l1In (((x.size : Nat) : Int), 1, 8) >>= fun r12 =>
    some r12)))
def spec_NameOk (x : ByteArray) : Option Bool :=
    (spec_l1Letters x >>= fun r1 =>
    (if r1 = true then (bx x 0 >>= fun c3 =>
    (spec_l1Small c3 >>= fun r4 =>
    (if r4 = true then (spec_l1IsWord x >>= fun r6 =>
    some (!r6)) else
    some false))) else
    some false))
def spec_GreatOk (x : ByteArray) : Option Bool :=
    (spec_l1Letters x >>= fun r1 =>
    (if r1 = true then (bx x 0 >>= fun c3 =>
    (spec_l1Large c3 >>= fun r4 =>
    some r4)) else
    some false))
def spec_l1Kind (x : ByteArray) : Option Int :=
    (spec_l1IsWord x >>= fun r1 =>
    (if r1 = true then some 4 else
    (spec_NameOk x >>= fun r3 =>
    (if r3 = true then some 1 else
    (spec_GreatOk x >>= fun r5 =>
    (if r5 = true then some 2 else
    some 0))))))
def spec_l1Next_L2 (x : (ByteArray × Int × Int)) : Option Int :=
    (if x.2.2 < ((x.1.size : Nat) : Int) then (bx x.1 x.2.2 >>= fun c46 =>
    (spec_l1Letter c46 >>= fun r47 =>
    (if r47 = true then spec_l1Next_L2 (x.1, x.2.1, (IntKind.i64.wrap (x.2.2 + 1))) else
    some x.2.2))) else
    some x.2.2)
  partial_fixpoint
def spec_l1Next_L1 (x : (ByteArray × Int × Int)) : Option Int :=
    (if x.2.2 < ((x.1.size : Nat) : Int) then (bx x.1 x.2.2 >>= fun c28 =>
    (spec_l1Letter c28 >>= fun r29 =>
    (if r29 = true then spec_l1Next_L1 (x.1, x.2.1, (IntKind.i64.wrap (x.2.2 + 1))) else
    some x.2.2))) else
    some x.2.2)
  partial_fixpoint
def spec_l1Next_L0 (x : (ByteArray × Int × Int)) : Option Int :=
    (if x.2.2 < ((x.1.size : Nat) : Int) then (bx x.1 x.2.2 >>= fun c9 =>
    (spec_l1Digit c9 >>= fun r10 =>
    (if r10 = true then spec_l1Next_L0 (x.1, x.2.1, (IntKind.i64.wrap (x.2.2 + 1))) else
    some x.2.2))) else
    some x.2.2)
  partial_fixpoint
def spec_l1Next (x : (ByteArray × Int)) : Option (Int × Int) :=
    (bx x.1 x.2 >>= fun c1 =>
    (spec_l1Digit c1 >>= fun r2 =>
    (if r2 = true then (spec_l1Next_L0 (x.1, x.2, x.2) >>= fun s12 =>
    (gd ((0 : Int) ≤ x.2) >>= fun u14 =>
    (gd ((x.2 : Int) ≤ s12) >>= fun u16 =>
    (gd (s12 ≤ ((x.1.size : Nat) : Int)) >>= fun u18 =>
    (spec_l1NumOk (x.1.extract x.2.toNat s12.toNat) >>= fun r19 =>
    (if r19 = true then some ((IntKind.i64.wrap (s12 - x.2)), 3) else
    some (0, 0))))))) else
    (spec_l1Small c1 >>= fun r21 =>
    (if r21 = true then (spec_l1Next_L1 (x.1, x.2, x.2) >>= fun s31 =>
    (gd ((0 : Int) ≤ x.2) >>= fun u33 =>
    (gd ((x.2 : Int) ≤ s31) >>= fun u35 =>
    (gd (s31 ≤ ((x.1.size : Nat) : Int)) >>= fun u37 =>
    (spec_l1Kind (x.1.extract x.2.toNat s31.toNat) >>= fun r38 =>
    some ((IntKind.i64.wrap (s31 - x.2)), r38)))))) else
    (spec_l1Large c1 >>= fun r39 =>
    (if r39 = true then (spec_l1Next_L2 (x.1, x.2, x.2) >>= fun s49 =>
    (gd ((0 : Int) ≤ x.2) >>= fun u51 =>
    (gd ((x.2 : Int) ≤ s49) >>= fun u53 =>
    (gd (s49 ≤ ((x.1.size : Nat) : Int)) >>= fun u55 =>
    (spec_l1Kind (x.1.extract x.2.toNat s49.toNat) >>= fun r56 =>
    some ((IntKind.i64.wrap (s49 - x.2)), r56)))))) else
    (if (IntKind.i64.wrap (x.2 + 2)) ≤ ((x.1.size : Nat) : Int) then (gd ((0 : Int) ≤ x.2) >>= fun u59 =>
    (gd ((x.2 : Int) ≤ (IntKind.i64.wrap (x.2 + 2))) >>= fun u61 =>
    (if (x.1.extract x.2.toNat (IntKind.i64.wrap (x.2 + 2)).toNat) = (⟨⟨[45, 62]⟩⟩ : ByteArray) then some (2, 5) else
    (if (x.1.extract x.2.toNat (IntKind.i64.wrap (x.2 + 2)).toNat) = (⟨⟨[61, 61]⟩⟩ : ByteArray) then some (2, 5) else
    (gd ((x.2 : Int) ≤ (IntKind.i64.wrap (x.2 + 1))) >>= fun u65 =>
    (gd ((IntKind.i64.wrap (x.2 + 1)) ≤ ((x.1.size : Nat) : Int)) >>= fun u67 =>
    (spec_l1Has ([(⟨⟨[40]⟩⟩ : ByteArray), (⟨⟨[41]⟩⟩ : ByteArray), (⟨⟨[123]⟩⟩ : ByteArray), (⟨⟨[125]⟩⟩ : ByteArray), (⟨⟨[59]⟩⟩ : ByteArray), (⟨⟨[61]⟩⟩ : ByteArray), (⟨⟨[92]⟩⟩ : ByteArray), (⟨⟨[124]⟩⟩ : ByteArray), (⟨⟨[43]⟩⟩ : ByteArray), (⟨⟨[45]⟩⟩ : ByteArray), (⟨⟨[42]⟩⟩ : ByteArray), (⟨⟨[60]⟩⟩ : ByteArray), (⟨⟨[95]⟩⟩ : ByteArray)], (x.1.extract x.2.toNat (IntKind.i64.wrap (x.2 + 1)).toNat)) >>= fun r68 =>
    (if r68 = true then some (1, 5) else
    some (0, 0))))))))) else
    (gd ((0 : Int) ≤ x.2) >>= fun u71 =>
    (gd ((x.2 : Int) ≤ (IntKind.i64.wrap (x.2 + 1))) >>= fun u73 =>
    (gd ((IntKind.i64.wrap (x.2 + 1)) ≤ ((x.1.size : Nat) : Int)) >>= fun u75 =>
    (spec_l1Has ([(⟨⟨[40]⟩⟩ : ByteArray), (⟨⟨[41]⟩⟩ : ByteArray), (⟨⟨[123]⟩⟩ : ByteArray), (⟨⟨[125]⟩⟩ : ByteArray), (⟨⟨[59]⟩⟩ : ByteArray), (⟨⟨[61]⟩⟩ : ByteArray), (⟨⟨[92]⟩⟩ : ByteArray), (⟨⟨[124]⟩⟩ : ByteArray), (⟨⟨[43]⟩⟩ : ByteArray), (⟨⟨[45]⟩⟩ : ByteArray), (⟨⟨[42]⟩⟩ : ByteArray), (⟨⟨[60]⟩⟩ : ByteArray), (⟨⟨[95]⟩⟩ : ByteArray)], (x.1.extract x.2.toNat (IntKind.i64.wrap (x.2 + 1)).toNat)) >>= fun r76 =>
    (if r76 = true then some (1, 5) else
    some (0, 0))))))))))))))
def spec_l1Place_L0 (x : (ByteArray × Int × Int × Int × Int)) : Option (Int × Int) :=
    (if x.2.2.2.2 < x.2.1 then (bx x.1 x.2.2.2.2 >>= fun c5 =>
    (if c5 = 10 then spec_l1Place_L0 (x.1, x.2.1, (IntKind.i64.wrap (x.2.2.1 + 1)), 1, (IntKind.i64.wrap (x.2.2.2.2 + 1))) else
    spec_l1Place_L0 (x.1, x.2.1, x.2.2.1, (IntKind.i64.wrap (x.2.2.2.1 + 1)), (IntKind.i64.wrap (x.2.2.2.2 + 1))))) else
    some (x.2.2.1, x.2.2.2.1))
  partial_fixpoint
def spec_l1Place (x : (ByteArray × Int)) : Option (Int × Int) :=
    (spec_l1Place_L0 (x.1, x.2, 1, 1, 0) >>= fun s7 =>
    some (s7.1, s7.2))
def spec_l1Skip_L1 (x : (ByteArray × Int)) : Option Int :=
    (if x.2 < ((x.1.size : Nat) : Int) then (bx x.1 x.2 >>= fun c32 =>
    (if c32 = 10 then some x.2 else
    spec_l1Skip_L1 (x.1, (IntKind.i64.wrap (x.2 + 1))))) else
    some x.2)
  partial_fixpoint
def spec_l1Skip_L0 (x : (ByteArray × Int)) : Option (Sum Int Int) :=
    (if x.2 < ((x.1.size : Nat) : Int) then (if (IntKind.i64.wrap (x.2 + 2)) ≤ ((x.1.size : Nat) : Int) then (gd ((0 : Int) ≤ x.2) >>= fun u24 =>
    (gd ((x.2 : Int) ≤ (IntKind.i64.wrap (x.2 + 2))) >>= fun u26 =>
    (if (x.1.extract x.2.toNat (IntKind.i64.wrap (x.2 + 2)).toNat) = (⟨⟨[45, 45]⟩⟩ : ByteArray) then (spec_l1Skip_L1 (x.1, x.2) >>= fun s34 =>
    spec_l1Skip_L0 (x.1, s34)) else
    (bx x.1 x.2 >>= fun c35 =>
    (if c35 = 32 then spec_l1Skip_L0 (x.1, (IntKind.i64.wrap (x.2 + 1))) else
    (if c35 = 10 then spec_l1Skip_L0 (x.1, (IntKind.i64.wrap (x.2 + 1))) else
    some (.inl x.2))))))) else
    (bx x.1 x.2 >>= fun c38 =>
    (if c38 = 32 then spec_l1Skip_L0 (x.1, (IntKind.i64.wrap (x.2 + 1))) else
    (if c38 = 10 then spec_l1Skip_L0 (x.1, (IntKind.i64.wrap (x.2 + 1))) else
    some (.inl x.2))))) else
    some (.inr x.2))
  partial_fixpoint
def spec_l1Skip (x : (ByteArray × Int)) : Option Int :=
    (spec_l1Skip_L0 (x.1, x.2) >>= fun s41 =>
    (match s41 with
    | .inl r42 => some r42
    | .inr v43 => some v43))
def spec_Lex_L1 (x : (ByteArray × (List Tok) × Int × (Int × Int) × Int × Int × Int)) : Option (Int × Int) :=
    (if x.2.2.2.2.2.2 < x.2.2.1 then (bx x.1 x.2.2.2.2.2.2 >>= fun c32 =>
    (if c32 = 10 then spec_Lex_L1 (x.1, x.2.1, x.2.2.1, x.2.2.2.1, (IntKind.i64.wrap (x.2.2.2.2.1 + 1)), (IntKind.i64.wrap (x.2.2.2.2.2.2 + 1)), (IntKind.i64.wrap (x.2.2.2.2.2.2 + 1))) else
    spec_Lex_L1 (x.1, x.2.1, x.2.2.1, x.2.2.2.1, x.2.2.2.2.1, x.2.2.2.2.2.1, (IntKind.i64.wrap (x.2.2.2.2.2.2 + 1))))) else
    some (x.2.2.2.2.1, x.2.2.2.2.2.1))
  partial_fixpoint
def spec_Lex_L0 (x : (ByteArray × (List Tok) × Int × Int × Int × Int)) : Option (Sum ((List Tok) × Bool) (List Tok)) :=
    (if x.2.2.2.2.2 < ((x.1.size : Nat) : Int) then (if ((x.1.size : Nat) : Int) ≤ 1500 then (spec_l1Next (x.1, x.2.2.2.2.2) >>= fun r25 =>
    (if r25.2 = 0 then some (.inl ([], false)) else
    (if 400 ≤ ((x.2.1.length : Nat) : Int) then some (.inl ([], false)) else
    (spec_Lex_L1 (x.1, x.2.1, x.2.2.2.2.2, r25, x.2.2.1, x.2.2.2.1, x.2.2.2.2.1) >>= fun s34 =>
    (gd ((0 : Int) ≤ x.2.2.2.2.2) >>= fun u36 =>
    (gd ((x.2.2.2.2.2 : Int) ≤ (IntKind.i64.wrap (x.2.2.2.2.2 + r25.1))) >>= fun u38 =>
    (gd ((IntKind.i64.wrap (x.2.2.2.2.2 + r25.1)) ≤ ((x.1.size : Nat) : Int)) >>= fun u40 =>
    (gd (x.2.1.length + 1 ≤ grow) >>= fun u42 =>
    (spec_l1Skip (x.1, (IntKind.i64.wrap (x.2.2.2.2.2 + r25.1))) >>= fun r43 =>
    spec_Lex_L0 (x.1, (x.2.1 ++ [(Tok.mk r25.2 (x.1.extract x.2.2.2.2.2.toNat (IntKind.i64.wrap (x.2.2.2.2.2 + r25.1)).toNat) s34.1 (IntKind.i64.wrap ((IntKind.i64.wrap (x.2.2.2.2.2 - s34.2)) + 1)))]), s34.1, s34.2, x.2.2.2.2.2, r43)))))))))) else
    some (.inr x.2.1)) else
    some (.inr x.2.1))
  partial_fixpoint
def spec_Lex (x : ByteArray) : Option ((List Tok) × Bool) :=
    (spec_l1Skip (x, 0) >>= fun r1 =>
    (spec_Lex_L0 (x, [], 1, 0, 0, r1) >>= fun s44 =>
    (match s44 with
    | .inl r45 => some r45
    | .inr v46 => (if 1500 < ((x.size : Nat) : Int) then some ([], false) else
    (if 400 ≤ ((v46.length : Nat) : Int) then some ([], false) else
    (spec_l1Place (x, ((x.size : Nat) : Int)) >>= fun r49 =>
    (gd (v46.length + 1 ≤ grow) >>= fun u51 =>
    some ((v46 ++ [(Tok.mk 6 (⟨⟨[]⟩⟩ : ByteArray) r49.1 r49.2)]), true))))))))
def laws_markText_L0 (x : (Int × ByteArray)) : Option ByteArray :=
    (if 0 < x.1 then (gd ((bsOf ([(IntKind.u8.wrap (IntKind.i64.wrap (48 + (Int.tmod x.1 10))))])).size + x.2.size ≤ lim) >>= fun u7 =>
    laws_markText_L0 ((IntKind.i64.wrap (Int.tdiv x.1 10)), ((bsOf ([(IntKind.u8.wrap (IntKind.i64.wrap (48 + (Int.tmod x.1 10))))])) ++ x.2))) else
    some x.2)
  partial_fixpoint
def laws_markText (x : Int) : Option ByteArray :=
    (if x ≤ 0 then some (⟨⟨[109, 48]⟩⟩ : ByteArray) else
    (laws_markText_L0 (x, (⟨⟨[]⟩⟩ : ByteArray)) >>= fun s8 =>
    (gd ((⟨⟨[109]⟩⟩ : ByteArray).size + s8.size ≤ lim) >>= fun u10 =>
    some ((⟨⟨[109]⟩⟩ : ByteArray) ++ s8))))
def laws_markTokS_p_L0 (x : (Int × Int × (List Tok))) : Option (Int × (List Tok)) :=
    (if x.2.1 < ((x.2.2.length : Nat) : Int) then (ix x.2.2 x.2.1 >>= fun e14 =>
    (laws_markText (IntKind.i64.wrap (x.1 + 1)) >>= fun r15 =>
    (ix (x.2.2.set x.2.1.toNat (Tok.mk x.1 e14.S e14.Line e14.Col)) x.2.1 >>= fun e16 =>
    (ix ((x.2.2.set x.2.1.toNat (Tok.mk x.1 e14.S e14.Line e14.Col)).set x.2.1.toNat (Tok.mk e16.K r15 e16.Line e16.Col)) x.2.1 >>= fun e17 =>
    (ix (((x.2.2.set x.2.1.toNat (Tok.mk x.1 e14.S e14.Line e14.Col)).set x.2.1.toNat (Tok.mk e16.K r15 e16.Line e16.Col)).set x.2.1.toNat (Tok.mk e17.K e17.S (IntKind.i64.wrap ((IntKind.i64.wrap (x.1 + 1)) + 1)) e17.Col)) x.2.1 >>= fun e18 =>
    laws_markTokS_p_L0 ((IntKind.i64.wrap ((IntKind.i64.wrap ((IntKind.i64.wrap ((IntKind.i64.wrap (x.1 + 1)) + 1)) + 1)) + 1)), (IntKind.i64.wrap (x.2.1 + 1)), ((((x.2.2.set x.2.1.toNat (Tok.mk x.1 e14.S e14.Line e14.Col)).set x.2.1.toNat (Tok.mk e16.K r15 e16.Line e16.Col)).set x.2.1.toNat (Tok.mk e17.K e17.S (IntKind.i64.wrap ((IntKind.i64.wrap (x.1 + 1)) + 1)) e17.Col)).set x.2.1.toNat (Tok.mk e18.K e18.S e18.Line (IntKind.i64.wrap ((IntKind.i64.wrap ((IntKind.i64.wrap (x.1 + 1)) + 1)) + 1)))))))))) else
    some (x.1, x.2.2))
  partial_fixpoint
def laws_markTokS_p (x : ((List Tok) × Int)) : Option (Int × (List Tok)) :=
    (laws_markTokS_p_L0 (x.2, 0, x.1) >>= fun s19 =>
    some (s19.1, s19.2))
def laws_heldTokS_p_L0 (x : ((List Tok) × Int × Int)) : Option (Sum (Int × (List Tok)) Int) :=
    (if x.2.2 < ((x.1.length : Nat) : Int) then (ix x.1 x.2.2 >>= fun e9 =>
    (if e9.K = x.2.1 then (laws_markText (IntKind.i64.wrap (x.2.1 + 1)) >>= fun r11 =>
    (if e9.S = r11 then (if e9.Line = (IntKind.i64.wrap ((IntKind.i64.wrap (x.2.1 + 1)) + 1)) then (if e9.Col = (IntKind.i64.wrap ((IntKind.i64.wrap ((IntKind.i64.wrap (x.2.1 + 1)) + 1)) + 1)) then laws_heldTokS_p_L0 (x.1, (IntKind.i64.wrap ((IntKind.i64.wrap ((IntKind.i64.wrap ((IntKind.i64.wrap (x.2.1 + 1)) + 1)) + 1)) + 1)), (IntKind.i64.wrap (x.2.2 + 1))) else
    some (.inl ((-1), x.1))) else
    some (.inl ((-1), x.1))) else
    some (.inl ((-1), x.1)))) else
    some (.inl ((-1), x.1)))) else
    some (.inr x.2.1))
  partial_fixpoint
def laws_heldTokS_p (x : ((List Tok) × Int)) : Option (Int × (List Tok)) :=
    (laws_heldTokS_p_L0 (x.1, x.2, 0) >>= fun s15 =>
    (match s15 with
    | .inl r16 => some r16
    | .inr v17 => some (v17, x.1)))
def laws_eqTok (x : (Tok × Tok)) : Option Bool :=
    (if x.1.K = x.2.K then (if x.1.S = x.2.S then (if x.1.Line = x.2.Line then (if x.1.Col = x.2.Col then some true else
    some false) else
    some false) else
    some false) else
    some false)
def laws_eqTokS_p_L0 (x : ((List Tok) × (List Tok) × Int)) : Option (Sum (Bool × (List Tok)) Unit) :=
    (if x.2.2 < ((x.1.length : Nat) : Int) then (ix x.1 x.2.2 >>= fun e8 =>
    (ix x.2.1 x.2.2 >>= fun e9 =>
    (laws_eqTok (e8, e9) >>= fun r10 =>
    (if r10 = true then laws_eqTokS_p_L0 (x.1, x.2.1, (IntKind.i64.wrap (x.2.2 + 1))) else
    some (.inl (false, x.1)))))) else
    some (.inr ()))
  partial_fixpoint
def laws_eqTokS_p (x : ((List Tok) × (List Tok))) : Option (Bool × (List Tok)) :=
    (if ((x.1.length : Nat) : Int) = ((x.2.length : Nat) : Int) then (laws_eqTokS_p_L0 (x.1, x.2, 0) >>= fun s12 =>
    (match s12 with
    | .inl r13 => some r13
    | .inr v14 => some (true, x.1))) else
    some (false, x.1))
def laws_FnExactLex (x : ByteArray) : Option Bool :=
    (if 1048576 < ((x.size : Nat) : Int) then some true else
    (spec_Lex x >>= fun r2 =>
    (impl_Lex x >>= fun r3 =>
    (laws_eqTokS_p (r3.1, r2.1) >>= fun r4 =>
    (gd (r4.2.length = r3.1.length) >>= fun u6 =>
    (if r4.1 = true then (if (r3.2 == r2.2) = true then (laws_markTokS_p (r4.2, 1) >>= fun r9 =>
    (gd (r9.2.length = r3.1.length) >>= fun u11 =>
    (laws_heldTokS_p (r9.2, 1) >>= fun r12 =>
    (gd (r12.2.length = r3.1.length) >>= fun u14 =>
    (if r12.1 < 0 then some false else
    (if r12.1 = r9.1 then (impl_Lex x >>= fun r17 =>
    (laws_eqTokS_p (r17.1, r2.1) >>= fun r18 =>
    (gd (r18.2.length = r17.1.length) >>= fun u20 =>
    (if r18.1 = true then (if (r17.2 == r2.2) = true then (laws_heldTokS_p (r12.2, 1) >>= fun r23 =>
    (gd (r23.2.length = r3.1.length) >>= fun u25 =>
    (if r23.1 < 0 then some false else
    (if r23.1 = r9.1 then some true else
    some false)))) else
    some false) else
    some false)))) else
    some false)))))) else
    some false) else
    some false))))))
end M
end W
