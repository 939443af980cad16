import Derived.Test.YtnhdobhfebiggaaLTy
namespace W
open Go HL
set_option linter.unusedVariables false
namespace M
def impl_isLetter (x : Int) : Option Bool :=
    (if 97 ≤ x then (if x ≤ 122 then some true else
    (if 65 ≤ x then some (decide (x ≤ 90)) else
    some false)) else
    (if 65 ≤ x then some (decide (x ≤ 90)) else
    some false))
def impl_isDigit (x : Int) : Option Bool :=
    (if 48 ≤ x then some (decide (x ≤ 57)) else
    some false)
def impl_in (x : (Int × Int × Int)) : Option Bool :=
    (if x.2.1 ≤ x.1 then some (decide (x.1 ≤ x.2.2)) else
    some false)
def impl_wordLike_L0 (x : (ByteArray × Int)) : Option (Sum Bool Unit) :=
    (if x.2 < ((x.1.size : Nat) : Int) then (bx x.1 x.2 >>= fun c9 =>
    (impl_isLetter c9 >>= fun r10 =>
    (if r10 = true then impl_wordLike_L0 (x.1, (IntKind.i64.wrap (x.2 + 1))) else
    (if x.2 = 0 then some (.inl false) else
    (impl_isDigit c9 >>= fun r13 =>
    (if r13 = true then impl_wordLike_L0 (x.1, (IntKind.i64.wrap (x.2 + 1))) else
    some (.inl false))))))) else
    some (.inr ()))
  partial_fixpoint
def impl_wordLike (x : ByteArray) : Option Bool :=
    (impl_wordLike_L0 (x, 0) >>= fun s15 =>
    (match s15 with
    | .inl r16 => some r16
    | .inr v17 => (impl_in (((x.size : Nat) : Int), 1, 8) >>= fun r18 =>
    some r18)))
def impl_GreatOk (x : ByteArray) : Option Bool :=
    (impl_wordLike x >>= fun r1 =>
    (if r1 = true then (bx x 0 >>= fun c3 =>
    some (decide (c3 ≤ 90))) else
    some false))
def internal_stringslite_HasPrefix (x : (ByteArray × ByteArray)) : Option Bool :=
    (if ((x.2.size : Nat) : Int) ≤ ((x.1.size : Nat) : Int) then (gd ((0 : Int) ≤ 0) >>= fun u3 =>
    (gd ((0 : Int) ≤ ((x.2.size : Nat) : Int)) >>= fun u5 =>
    some (decide ((x.1.extract (0 : Int).toNat x.2.size) = x.2)))) else
    some false)
def strings_HasPrefix (x : (ByteArray × ByteArray)) : Option Bool :=
    (internal_stringslite_HasPrefix (x.1, x.2) >>= fun r1 =>
    some r1)
def impl_passed_1 (x : Int) : Option Bool :=
    some (!(decide (x = 10)))
def impl_runLen_at_passed_1_L0 (x : (ByteArray × Int)) : Option Int :=
    (if x.2 < ((x.1.size : Nat) : Int) then (bx x.1 x.2 >>= fun c6 =>
    (impl_passed_1 c6 >>= fun r7 =>
    (if r7 = true then impl_runLen_at_passed_1_L0 (x.1, (IntKind.i64.wrap (x.2 + 1))) else
    some x.2))) else
    some x.2)
  partial_fixpoint
def impl_runLen_at_passed_1 (x : ByteArray) : Option Int :=
    (impl_runLen_at_passed_1_L0 (x, 0) >>= fun s9 =>
    some s9)
def impl_passed (x : ByteArray) : Option Int :=
    (bx x 0 >>= fun c1 =>
    (if c1 = 32 then some 1 else
    (if c1 = 10 then some 1 else
    (strings_HasPrefix (x, (⟨⟨[45, 45]⟩⟩ : ByteArray)) >>= fun r4 =>
    (if r4 = true then (impl_runLen_at_passed_1 x >>= fun r6 =>
    some r6) else
    some 0)))))
def slices_Index_string_L0 (x : ((List ByteArray) × ByteArray × Int)) : Option (Sum Int Unit) :=
    (if x.2.2 < ((x.1.length : Nat) : Int) then (ix x.1 x.2.2 >>= fun e5 =>
    (if x.2.1 = e5 then some (.inl x.2.2) else
    slices_Index_string_L0 (x.1, x.2.1, (IntKind.i64.wrap (x.2.2 + 1))))) else
    some (.inr ()))
  partial_fixpoint
def slices_Index_string (x : ((List ByteArray) × ByteArray)) : Option Int :=
    (slices_Index_string_L0 (x.1, x.2, 0) >>= fun s7 =>
    (match s7 with
    | .inl r8 => some r8
    | .inr v9 => some (-1)))
def slices_Contains_string (x : ((List ByteArray) × ByteArray)) : Option Bool :=
    (slices_Index_string (x.1, x.2) >>= fun r1 =>
    some (decide (0 ≤ r1)))
def slices_Index_byte_L0 (x : ((List Int) × Int × Int)) : Option (Sum Int Unit) :=
    (if x.2.2 < ((x.1.length : Nat) : Int) then (ix x.1 x.2.2 >>= fun e5 =>
    (if x.2.1 = e5 then some (.inl x.2.2) else
    slices_Index_byte_L0 (x.1, x.2.1, (IntKind.i64.wrap (x.2.2 + 1))))) else
    some (.inr ()))
  partial_fixpoint
def slices_Index_byte (x : ((List Int) × Int)) : Option Int :=
    (slices_Index_byte_L0 (x.1, x.2, 0) >>= fun s7 =>
    (match s7 with
    | .inl r8 => some r8
    | .inr v9 => some (-1)))
def slices_Contains_byte (x : ((List Int) × Int)) : Option Bool :=
    (slices_Index_byte (x.1, x.2) >>= fun r1 =>
    some (decide (0 ≤ r1)))
def impl_nextTok_1 (x : Int) : Option Bool :=
    (impl_isLetter x >>= fun r1 =>
    (if r1 = true then some true else
    (impl_isDigit x >>= fun r3 =>
    some r3)))
def impl_runLen_at_nextTok_1_L0 (x : (ByteArray × Int)) : Option Int :=
    (if x.2 < ((x.1.size : Nat) : Int) then (bx x.1 x.2 >>= fun c6 =>
    (impl_nextTok_1 c6 >>= fun r7 =>
    (if r7 = true then impl_runLen_at_nextTok_1_L0 (x.1, (IntKind.i64.wrap (x.2 + 1))) else
    some x.2))) else
    some x.2)
  partial_fixpoint
def impl_runLen_at_nextTok_1 (x : ByteArray) : Option Int :=
    (impl_runLen_at_nextTok_1_L0 (x, 0) >>= fun s9 =>
    some s9)
def impl_words (x : Unit) : Option (List ByteArray) :=
    some ([(⟨⟨[108, 101, 116]⟩⟩ : ByteArray), (⟨⟨[105, 110]⟩⟩ : ByteArray), (⟨⟨[119, 104, 101, 114, 101]⟩⟩ : ByteArray), (⟨⟨[99, 97, 115, 101]⟩⟩ : ByteArray), (⟨⟨[111, 102]⟩⟩ : ByteArray), (⟨⟨[105, 102]⟩⟩ : ByteArray), (⟨⟨[116, 104, 101, 110]⟩⟩ : ByteArray), (⟨⟨[101, 108, 115, 101]⟩⟩ : ByteArray), (⟨⟨[100, 97, 116, 97]⟩⟩ : ByteArray)])
def impl_runLen_at_isDigit_L0 (x : (ByteArray × Int)) : Option Int :=
    (if x.2 < ((x.1.size : Nat) : Int) then (bx x.1 x.2 >>= fun c6 =>
    (impl_isDigit c6 >>= fun r7 =>
    (if r7 = true then impl_runLen_at_isDigit_L0 (x.1, (IntKind.i64.wrap (x.2 + 1))) else
    some x.2))) else
    some x.2)
  partial_fixpoint
def impl_runLen_at_isDigit (x : ByteArray) : Option Int :=
    (impl_runLen_at_isDigit_L0 (x, 0) >>= fun s9 =>
    some s9)
def impl_numberLike (x : ByteArray) : Option Bool :=
    (impl_in (((x.size : Nat) : Int), 1, 6) >>= fun r1 =>
    (if r1 = true then (bx x 0 >>= fun c3 =>
    (if c3 = 48 then some (decide (((x.size : Nat) : Int) = 1)) else
    some true)) else
    some false))
def impl_NameOk (x : ByteArray) : Option Bool :=
    (impl_wordLike x >>= fun r1 =>
    (if r1 = true then (bx x 0 >>= fun c3 =>
    (if 97 ≤ c3 then (impl_words () >>= fun r5 =>
    (slices_Contains_string (r5, x) >>= fun r6 =>
    some (!r6))) else
    some false)) else
    some false))
def impl_nextTok (x : ByteArray) : Option (Tok × Bool) :=
    (bx x 0 >>= fun c1 =>
    (impl_isLetter c1 >>= fun r2 =>
    (if r2 = true then (impl_runLen_at_nextTok_1 x >>= fun r4 =>
    (gd ((0 : Int) ≤ 0) >>= fun u6 =>
    (gd ((0 : Int) ≤ r4) >>= fun u8 =>
    (gd (r4 ≤ ((x.size : Nat) : Int)) >>= fun u10 =>
    (impl_words () >>= fun r11 =>
    (slices_Contains_string (r11, (x.extract (0 : Int).toNat r4.toNat)) >>= fun r12 =>
    (if r12 = true then some ((Tok.mk 4 (x.extract (0 : Int).toNat r4.toNat) 0 0), true) else
    (impl_NameOk (x.extract (0 : Int).toNat r4.toNat) >>= fun r14 =>
    (if r14 = true then some ((Tok.mk 1 (x.extract (0 : Int).toNat r4.toNat) 0 0), true) else
    (impl_GreatOk (x.extract (0 : Int).toNat r4.toNat) >>= fun r16 =>
    some ((Tok.mk 2 (x.extract (0 : Int).toNat r4.toNat) 0 0), r16))))))))))) else
    (impl_isDigit c1 >>= fun r17 =>
    (if r17 = true then (impl_runLen_at_isDigit x >>= fun r19 =>
    (gd ((0 : Int) ≤ 0) >>= fun u21 =>
    (gd ((0 : Int) ≤ r19) >>= fun u23 =>
    (gd (r19 ≤ ((x.size : Nat) : Int)) >>= fun u25 =>
    (impl_numberLike (x.extract (0 : Int).toNat r19.toNat) >>= fun r26 =>
    some ((Tok.mk 3 (x.extract (0 : Int).toNat r19.toNat) 0 0), r26)))))) else
    (strings_HasPrefix (x, (⟨⟨[45, 62]⟩⟩ : ByteArray)) >>= fun r27 =>
    (if r27 = true then (gd ((0 : Int) ≤ 0) >>= fun u30 =>
    (gd ((0 : Int) ≤ 2) >>= fun u32 =>
    (gd (2 ≤ ((x.size : Nat) : Int)) >>= fun u34 =>
    some ((Tok.mk 5 (x.extract (0 : Int).toNat (2 : Int).toNat) 0 0), true)))) else
    (strings_HasPrefix (x, (⟨⟨[61, 61]⟩⟩ : ByteArray)) >>= fun r35 =>
    (if r35 = true then (gd ((0 : Int) ≤ 0) >>= fun u38 =>
    (gd ((0 : Int) ≤ 2) >>= fun u40 =>
    (gd (2 ≤ ((x.size : Nat) : Int)) >>= fun u42 =>
    some ((Tok.mk 5 (x.extract (0 : Int).toNat (2 : Int).toNat) 0 0), true)))) else
    (gd ((0 : Int) ≤ 0) >>= fun u44 =>
    (gd ((0 : Int) ≤ 1) >>= fun u46 =>
    (gd (1 ≤ ((x.size : Nat) : Int)) >>= fun u48 =>
    (slices_Contains_byte ([40, 41, 123, 125, 59, 61, 92, 124, 43, 45, 42, 60, 95], c1) >>= fun r49 =>
    some ((Tok.mk 5 (x.extract (0 : Int).toNat (1 : Int).toNat) 0 0), r49))))))))))))))
def impl_Lex_L0 (x : (ByteArray × (List Tok) × Int × Int × Int)) : Option (Sum ((List Tok) × Bool) ((List Tok) × Int × Int × Int)) :=
    (if x.2.2.2.2 < ((x.1.size : Nat) : Int) then (gd ((0 : Int) ≤ x.2.2.2.2) >>= fun u19 =>
    (gd ((x.2.2.2.2 : Int) ≤ ((x.1.size : Nat) : Int)) >>= fun u21 =>
    (gd (((x.1.size : Nat) : Int) ≤ ((x.1.size : Nat) : Int)) >>= fun u23 =>
    (impl_passed (x.1.extract x.2.2.2.2.toNat x.1.size) >>= fun r24 =>
    (if 0 < r24 then (bx x.1 x.2.2.2.2 >>= fun c26 =>
    (if c26 = 10 then impl_Lex_L0 (x.1, x.2.1, (IntKind.i64.wrap (x.2.2.1 + 1)), (IntKind.i64.wrap (x.2.2.2.2 + 1)), (IntKind.i64.wrap (x.2.2.2.2 + r24))) else
    impl_Lex_L0 (x.1, x.2.1, x.2.2.1, x.2.2.2.1, (IntKind.i64.wrap (x.2.2.2.2 + r24))))) else
    (impl_nextTok (x.1.extract x.2.2.2.2.toNat x.1.size) >>= fun r28 =>
    (if r28.2 = true then (gd (x.2.1.length + 1 ≤ grow) >>= fun u31 =>
    impl_Lex_L0 (x.1, (x.2.1 ++ [(Tok.mk r28.1.K r28.1.S x.2.2.1 (IntKind.i64.wrap ((IntKind.i64.wrap (x.2.2.2.2 - x.2.2.2.1)) + 1)))]), x.2.2.1, x.2.2.2.1, (IntKind.i64.wrap (x.2.2.2.2 + ((r28.1.S.size : Nat) : Int))))) else
    some (.inl ([], false))))))))) else
    some (.inr (x.2.1, x.2.2.1, x.2.2.2.1, x.2.2.2.2)))
  partial_fixpoint
def impl_Lex (x : ByteArray) : Option ((List Tok) × Bool) :=
    (if 1500 < ((x.size : Nat) : Int) then some ([], false) else
    (impl_Lex_L0 (x, [], 1, 0, 0) >>= fun s32 =>
    (match s32 with
    | .inl r33 => some r33
    | .inr v34 => (gd (v34.1.length + 1 ≤ grow) >>= fun u36 =>
    (if 400 < (((v34.1.length + 1) : Nat) : Int) then some ([], false) else
    some ((v34.1 ++ [(Tok.mk 6 (⟨⟨[]⟩⟩ : ByteArray) v34.2.1 (IntKind.i64.wrap ((IntKind.i64.wrap (v34.2.2.2 - v34.2.2.1)) + 1)))]), true))))))
def joinT (sep : ByteArray) : List ByteArray → ByteArray
  | [] => ⟨#[]⟩
  | y :: r => sep ++ (y ++ joinT sep r)
def joinB (sep : ByteArray) : List ByteArray → ByteArray
  | [] => ⟨#[]⟩
  | x :: r => x ++ joinT sep r
def joinZ : List ByteArray → Nat
  | [] => 0
  | x :: r => x.size + joinZ r
def strings_Join (x : List ByteArray × ByteArray) : Option ByteArray := if x.1.length ≤ 140737488355328 ∧ x.2.size * (x.1.length - 1) + joinZ x.1 ≤ 140737488355328 then some (joinB x.2 x.1) else none
def impl_TokText_L0 (x : ((List Tok) × (List ByteArray) × Int)) : Option (List ByteArray) :=
    (if x.2.2 < ((x.1.length : Nat) : Int) then (ix x.1 x.2.2 >>= fun e7 =>
    (if e7.K = 6 then impl_TokText_L0 (x.1, x.2.1, (IntKind.i64.wrap (x.2.2 + 1))) else
    (gd (x.2.1.length + 1 ≤ grow) >>= fun u10 =>
    impl_TokText_L0 (x.1, (x.2.1 ++ [e7.S]), (IntKind.i64.wrap (x.2.2 + 1)))))) else
    some x.2.1)
  partial_fixpoint
def impl_TokText (x : (List Tok)) : Option ByteArray :=
    (impl_TokText_L0 (x, [], 0) >>= fun s11 =>
    (strings_Join (s11, (⟨⟨[32]⟩⟩ : ByteArray)) >>= fun r12 =>
    some r12))
def spec_l1New_L0 (x : ((List Int) × Int × Int)) : Option Int :=
    (if x.2.2 < ((x.1.length : Nat) : Int) then (if x.2.2 < 4000 then (ix x.1 x.2.2 >>= fun e6 =>
    spec_l1New_L0 (x.1, (andI IntKind.i64 (IntKind.i64.wrap ((IntKind.i64.wrap ((IntKind.i64.wrap (x.2.1 * 137)) + (IntKind.i64.wrap e6))) + 11)) 1073741823), (IntKind.i64.wrap (x.2.2 + 1)))) else
    some x.2.1) else
    some x.2.1)
  partial_fixpoint
def spec_l1New (x : (List Int)) : Option spec_l1Cur :=
    (spec_l1New_L0 (x, (IntKind.i64.wrap (945945 + ((x.length : Nat) : Int))), 0) >>= fun s7 =>
    some (spec_l1Cur.mk x 0 s7))
def spec_l1Byte_p (x : spec_l1Cur) : Option (Int × spec_l1Cur) :=
    (if x.i < ((x.b.length : Nat) : Int) then (ix x.b x.i >>= fun e2 =>
    some ((andI IntKind.i64 (IntKind.i64.wrap ((andI IntKind.i64 (xorI IntKind.i64 (shrI IntKind.i64 (IntKind.i64.wrap ((IntKind.i64.wrap (x.h * 6364136223846793005)) + 1442695040888963407)) 33) (shrI IntKind.i64 (IntKind.i64.wrap ((IntKind.i64.wrap (x.h * 6364136223846793005)) + 1442695040888963407)) 47)) 255) + (IntKind.i64.wrap e2))) 255), (spec_l1Cur.mk x.b (IntKind.i64.wrap (x.i + 1)) (IntKind.i64.wrap ((IntKind.i64.wrap (x.h * 6364136223846793005)) + 1442695040888963407))))) else
    some ((andI IntKind.i64 (xorI IntKind.i64 (shrI IntKind.i64 (IntKind.i64.wrap ((IntKind.i64.wrap (x.h * 6364136223846793005)) + 1442695040888963407)) 33) (shrI IntKind.i64 (IntKind.i64.wrap ((IntKind.i64.wrap (x.h * 6364136223846793005)) + 1442695040888963407)) 47)) 255), (spec_l1Cur.mk x.b x.i (IntKind.i64.wrap ((IntKind.i64.wrap (x.h * 6364136223846793005)) + 1442695040888963407)))))
def spec_l1Below_p (x : (spec_l1Cur × Int)) : Option (Int × spec_l1Cur) :=
    (if x.2 ≤ 0 then some (0, x.1) else
    (if x.2 ≤ 256 then (spec_l1Byte_p x.1 >>= fun r3 =>
    (gd (¬ x.2 = 0) >>= fun u5 =>
    some ((Int.tmod r3.1 x.2), r3.2))) else
    (spec_l1Byte_p x.1 >>= fun r6 =>
    (spec_l1Byte_p r6.2 >>= fun r7 =>
    (spec_l1Byte_p r7.2 >>= fun r8 =>
    (gd (¬ x.2 = 0) >>= fun u10 =>
    some ((Int.tmod (IntKind.i64.wrap ((IntKind.i64.wrap ((IntKind.i64.wrap (r6.1 * 65536)) + (IntKind.i64.wrap (r7.1 * 256)))) + r8.1)) x.2), r8.2)))))))
def spec_l1Str_p (x : (spec_l1Cur × (List ByteArray))) : Option (ByteArray × spec_l1Cur) :=
    (spec_l1Below_p (x.1, ((x.2.length : Nat) : Int)) >>= fun r1 =>
    (ix x.2 r1.1 >>= fun e2 =>
    some (e2, r1.2)))
def spec_DrawNameOk (x : (List Int)) : Option ByteArray :=
    (spec_l1New x >>= fun r1 =>
    (spec_l1Str_p (r1, [(⟨⟨[]⟩⟩ : ByteArray), (⟨⟨[97]⟩⟩ : ByteArray), (⟨⟨[97, 66, 57]⟩⟩ : ByteArray), (⟨⟨[108, 101, 116]⟩⟩ : ByteArray), (⟨⟨[65]⟩⟩ : ByteArray), (⟨⟨[95]⟩⟩ : ByteArray), (⟨⟨[101, 105, 103, 104, 116, 108, 101, 116]⟩⟩ : ByteArray), (⟨⟨[110, 105, 110, 101, 108, 101, 116, 116, 115]⟩⟩ : ByteArray), (⟨⟨[97, 95]⟩⟩ : ByteArray), (⟨⟨[57]⟩⟩ : ByteArray), (⟨⟨[111, 102]⟩⟩ : ByteArray)]) >>= fun r2 =>
    some r2.1))
def laws_sameToks_L0 (x : ((List Tok) × (List Tok) × Int)) : Option (Sum Bool Unit) :=
    (if x.2.2 < ((x.1.length : Nat) : Int) then (ix x.1 x.2.2 >>= fun e7 =>
    (ix x.2.1 x.2.2 >>= fun e8 =>
    (if ((decide (e7.K = e8.K) && (decide (e7.S = e8.S) && (decide (e7.Line = e8.Line) && decide (e7.Col = e8.Col)))) != true) = true then some (.inl false) else
    laws_sameToks_L0 (x.1, x.2.1, (IntKind.i64.wrap (x.2.2 + 1)))))) else
    some (.inr ()))
  partial_fixpoint
def laws_sameToks (x : ((List Tok) × (List Tok))) : Option Bool :=
    (if ((x.1.length : Nat) : Int) = ((x.2.length : Nat) : Int) then (laws_sameToks_L0 (x.1, x.2, 0) >>= fun s10 =>
    (match s10 with
    | .inl r11 => some r11
    | .inr v12 => some true)) else
    some false)
def laws_big (x : (List Int)) : Option Bool :=
    some (decide (1048576 < ((x.length : Nat) : Int)))
def spec_DrawGreatOk (x : (List Int)) : Option ByteArray :=
    (spec_l1New x >>= fun r1 =>
    (spec_l1Str_p (r1, [(⟨⟨[]⟩⟩ : ByteArray), (⟨⟨[65]⟩⟩ : ByteArray), (⟨⟨[65, 98, 57]⟩⟩ : ByteArray), (⟨⟨[97]⟩⟩ : ByteArray), (⟨⟨[69, 73, 71, 72, 84, 76, 69, 84]⟩⟩ : ByteArray), (⟨⟨[78, 73, 78, 69, 76, 69, 84, 84, 83]⟩⟩ : ByteArray), (⟨⟨[65, 95]⟩⟩ : ByteArray), (⟨⟨[84, 114, 117, 101]⟩⟩ : ByteArray)]) >>= fun r2 =>
    some r2.1))
def spec_l1Prog_p (x : spec_l1Cur) : Option (ByteArray × spec_l1Cur) :=
    (spec_l1Str_p (x, [(⟨⟨[109, 97, 105, 110, 32, 61, 32, 49]⟩⟩ : ByteArray), (⟨⟨[109, 97, 105, 110, 32, 61, 32, 102, 32, 51, 10, 102, 32, 120, 32, 61, 32, 120, 32, 43, 32, 49]⟩⟩ : ByteArray), (⟨⟨[100, 97, 116, 97, 32, 84, 32, 61, 32, 65, 32, 124, 32, 66, 32, 73, 110, 116, 10, 109, 97, 105, 110, 32, 61, 32, 99, 97, 115, 101, 32, 66, 32, 53, 32, 111, 102, 10, 32, 32, 65, 32, 45, 62, 32, 48, 10, 32, 32, 66, 32, 110, 32, 45, 62, 32, 110]⟩⟩ : ByteArray), (⟨⟨[109, 97, 105, 110, 32, 61, 32, 108, 101, 116, 10, 32, 32, 32, 32, 120, 32, 61, 32, 50, 10, 32, 32, 32, 32, 121, 32, 61, 32, 120, 32, 42, 32, 120, 10, 32, 32, 105, 110, 32, 121]⟩⟩ : ByteArray), (⟨⟨[102, 32, 120, 32, 61, 32, 103, 32, 120, 10, 32, 32, 119, 104, 101, 114, 101, 10, 32, 32, 32, 32, 103, 32, 121, 32, 61, 32, 121, 32, 43, 32, 120, 10, 109, 97, 105, 110, 32, 61, 32, 102, 32, 52]⟩⟩ : ByteArray), (⟨⟨[100, 97, 116, 97, 32, 76, 32, 61, 32, 78, 32, 124, 32, 67, 32, 73, 110, 116, 32, 76, 10, 115, 117, 109, 32, 108, 32, 61, 32, 99, 97, 115, 101, 32, 108, 32, 111, 102, 10, 32, 32, 78, 32, 45, 62, 32, 48, 10, 32, 32, 67, 32, 104, 32, 116, 32, 45, 62, 32, 104, 32, 43, 32, 115, 117, 109, 32, 116, 10, 109, 97, 105, 110, 32, 61, 32, 115, 117, 109, 32, 40, 67, 32, 49, 32, 40, 67, 32, 50, 32, 78, 41, 41]⟩⟩ : ByteArray), (⟨⟨[109, 97, 105, 110, 32, 61, 32, 105, 102, 32, 49, 32, 60, 32, 50, 32, 116, 104, 101, 110, 32, 40, 92, 120, 32, 45, 62, 32, 120, 41, 32, 55, 32, 101, 108, 115, 101, 32, 109, 97, 105, 110]⟩⟩ : ByteArray), (⟨⟨[116, 119, 105, 99, 101, 32, 102, 32, 120, 32, 61, 32, 102, 32, 40, 102, 32, 120, 41, 10, 109, 97, 105, 110, 32, 61, 32, 116, 119, 105, 99, 101, 32, 40, 92, 110, 32, 45, 62, 32, 110, 32, 42, 32, 50, 41, 32, 51]⟩⟩ : ByteArray), (⟨⟨[111, 110, 101, 115, 32, 61, 32, 67, 32, 49, 32, 111, 110, 101, 115, 10, 100, 97, 116, 97, 32, 76, 32, 61, 32, 78, 32, 124, 32, 67, 32, 73, 110, 116, 32, 76, 10, 104, 100, 32, 108, 32, 61, 32, 99, 97, 115, 101, 32, 108, 32, 111, 102, 10, 32, 32, 67, 32, 104, 32, 116, 32, 45, 62, 32, 104, 10, 109, 97, 105, 110, 32, 61, 32, 104, 100, 32, 111, 110, 101, 115]⟩⟩ : ByteArray)]) >>= fun r1 =>
    some (r1.1, r1.2))
def spec_l1Word_p (x : spec_l1Cur) : Option (ByteArray × spec_l1Cur) :=
    (spec_l1Str_p (x, [(⟨⟨[97]⟩⟩ : ByteArray), (⟨⟨[102]⟩⟩ : ByteArray), (⟨⟨[120]⟩⟩ : ByteArray), (⟨⟨[108, 101, 116]⟩⟩ : ByteArray), (⟨⟨[105, 110]⟩⟩ : ByteArray), (⟨⟨[119, 104, 101, 114, 101]⟩⟩ : ByteArray), (⟨⟨[111, 102]⟩⟩ : ByteArray), (⟨⟨[99, 97, 115, 101]⟩⟩ : ByteArray), (⟨⟨[65]⟩⟩ : ByteArray), (⟨⟨[84, 114, 117, 101]⟩⟩ : ByteArray), (⟨⟨[48]⟩⟩ : ByteArray), (⟨⟨[52, 50]⟩⟩ : ByteArray), (⟨⟨[45, 62]⟩⟩ : ByteArray), (⟨⟨[61, 61]⟩⟩ : ByteArray), (⟨⟨[61]⟩⟩ : ByteArray), (⟨⟨[40]⟩⟩ : ByteArray), (⟨⟨[41]⟩⟩ : ByteArray), (⟨⟨[92]⟩⟩ : ByteArray), (⟨⟨[124]⟩⟩ : ByteArray), (⟨⟨[43]⟩⟩ : ByteArray), (⟨⟨[45]⟩⟩ : ByteArray), (⟨⟨[42]⟩⟩ : ByteArray), (⟨⟨[60]⟩⟩ : ByteArray), (⟨⟨[95]⟩⟩ : ByteArray), (⟨⟨[123]⟩⟩ : ByteArray), (⟨⟨[125]⟩⟩ : ByteArray), (⟨⟨[59]⟩⟩ : ByteArray), (⟨⟨[100, 97, 116, 97]⟩⟩ : ByteArray), (⟨⟨[105, 102]⟩⟩ : ByteArray), (⟨⟨[116, 104, 101, 110]⟩⟩ : ByteArray), (⟨⟨[101, 108, 115, 101]⟩⟩ : ByteArray)]) >>= fun r1 =>
    some (r1.1, r1.2))
def spec_l1Text_p_L0 (x : (ByteArray × Int × (List Int) × Int × Int)) : Option (ByteArray × (List Int) × Int × Int) :=
    (if 0 < x.2.1 then (spec_l1Word_p (spec_l1Cur.mk x.2.2.1 x.2.2.2.1 x.2.2.2.2) >>= fun r17 =>
    (gd (x.1.size + r17.1.size ≤ lim) >>= fun u19 =>
    (spec_l1Str_p (r17.2, [(⟨⟨[32]⟩⟩ : ByteArray), (⟨⟨[32]⟩⟩ : ByteArray), (⟨⟨[32]⟩⟩ : ByteArray), (⟨⟨[10]⟩⟩ : ByteArray), (⟨⟨[10, 32, 32]⟩⟩ : ByteArray), (⟨⟨[10, 32, 32, 32, 32]⟩⟩ : ByteArray), (⟨⟨[]⟩⟩ : ByteArray)]) >>= fun r20 =>
    (gd ((x.1 ++ r17.1).size + r20.1.size ≤ lim) >>= fun u22 =>
    spec_l1Text_p_L0 (((x.1 ++ r17.1) ++ r20.1), (IntKind.i64.wrap (x.2.1 - 1)), r20.2.b, r20.2.i, r20.2.h))))) else
    some (x.1, x.2.2.1, x.2.2.2.1, x.2.2.2.2))
  partial_fixpoint
def spec_l1Text_p (x : spec_l1Cur) : Option (ByteArray × spec_l1Cur) :=
    (spec_l1Below_p (x, 14) >>= fun r1 =>
    (spec_l1Text_p_L0 ((⟨⟨[]⟩⟩ : ByteArray), r1.1, r1.2.b, r1.2.i, r1.2.h) >>= fun s23 =>
    some (s23.1, (spec_l1Cur.mk s23.2.1 s23.2.2.1 s23.2.2.2))))
def spec_l1Once_p (x : (spec_l1Cur × Int)) : Option (Bool × spec_l1Cur) :=
    (spec_l1Below_p (x.1, x.2) >>= fun r1 =>
    some ((decide (r1.1 = 0)), r1.2))
def spec_DrawLex (x : (List Int)) : Option ByteArray :=
    (spec_l1New x >>= fun r1 =>
    (spec_l1Text_p r1 >>= fun r2 =>
    (spec_l1Below_p (r2.2, 8) >>= fun r3 =>
    (if r3.1 = 0 then (spec_l1Str_p (r3.2, [(⟨⟨[36]⟩⟩ : ByteArray), (⟨⟨[9]⟩⟩ : ByteArray), (⟨⟨[48, 49]⟩⟩ : ByteArray), (⟨⟨[49, 50, 51, 52, 53, 54, 55]⟩⟩ : ByteArray), (⟨⟨[110, 105, 110, 101, 108, 101, 116, 116, 115]⟩⟩ : ByteArray), (⟨⟨[45, 45, 32, 104, 105]⟩⟩ : ByteArray), (⟨⟨[45, 45]⟩⟩ : ByteArray), (⟨⟨[45, 62, 120]⟩⟩ : ByteArray), (⟨⟨[97, 45, 45, 98, 10, 99]⟩⟩ : ByteArray), (⟨⟨[38]⟩⟩ : ByteArray)]) >>= fun r5 =>
    (gd (r2.1.size + r5.1.size ≤ lim) >>= fun u7 =>
    some (r2.1 ++ r5.1))) else
    (if r3.1 = 1 then (spec_l1Below_p (r3.2, (IntKind.i64.wrap (((r2.1.size : Nat) : Int) + 1))) >>= fun r9 =>
    (gd ((0 : Int) ≤ 0) >>= fun u11 =>
    (gd ((0 : Int) ≤ r9.1) >>= fun u13 =>
    (gd (r9.1 ≤ ((r2.1.size : Nat) : Int)) >>= fun u15 =>
    (gd ((r9.1 : Int) ≤ ((r2.1.size : Nat) : Int)) >>= fun u17 =>
    (gd (((r2.1.size : Nat) : Int) ≤ ((r2.1.size : Nat) : Int)) >>= fun u19 =>
    (spec_l1Str_p (r9.2, [(⟨⟨[45, 45, 32, 120, 10]⟩⟩ : ByteArray), (⟨⟨[10]⟩⟩ : ByteArray), (⟨⟨[32]⟩⟩ : ByteArray), (⟨⟨[255]⟩⟩ : ByteArray), (⟨⟨[57]⟩⟩ : ByteArray)]) >>= fun r20 =>
    (gd ((r2.1.extract (0 : Int).toNat r9.1.toNat).size + r20.1.size ≤ lim) >>= fun u22 =>
    (gd (((r2.1.extract (0 : Int).toNat r9.1.toNat) ++ r20.1).size + (r2.1.extract r9.1.toNat r2.1.size).size ≤ lim) >>= fun u24 =>
    some (((r2.1.extract (0 : Int).toNat r9.1.toNat) ++ r20.1) ++ (r2.1.extract r9.1.toNat r2.1.size))))))))))) else
    (if r3.1 = 2 then (spec_l1Prog_p r3.2 >>= fun r26 =>
    some r26.1) else
    (spec_l1Once_p (r3.2, 60) >>= fun r27 =>
    (if r27.1 = true then (spec_l1Below_p (r27.2, 2) >>= fun r29 =>
    (gd ((0 : Int) ≤ (IntKind.i64.wrap (1500 + r29.1))) >>= fun u31 =>
    (gd ((IntKind.i64.wrap (1500 + r29.1)) ≤ (1099511627776 : Int)) >>= fun u33 =>
    some (bsOf (List.replicate ((IntKind.i64.wrap (1500 + r29.1)).toNat) 0))))) else
    some r2.1))))))))
def spec_l1Skip_L1 (x : (ByteArray × Int)) : Option Int :=
    (if x.2 < ((x.1.size : Nat) : Int) then (bx x.1 x.2 >>= fun c32 =>
    (if c32 = 10 then some x.2 else
    spec_l1Skip_L1 (x.1, (IntKind.i64.wrap (x.2 + 1))))) else
    some x.2)
  partial_fixpoint
def spec_l1Skip_L0 (x : (ByteArray × Int)) : Option (Sum Int Int) :=
    (if x.2 < ((x.1.size : Nat) : Int) then (if (IntKind.i64.wrap (x.2 + 2)) ≤ ((x.1.size : Nat) : Int) then (gd ((0 : Int) ≤ x.2) >>= fun u24 =>
    (gd ((x.2 : Int) ≤ (IntKind.i64.wrap (x.2 + 2))) >>= fun u26 =>
    (if (x.1.extract x.2.toNat (IntKind.i64.wrap (x.2 + 2)).toNat) = (⟨⟨[45, 45]⟩⟩ : ByteArray) then (spec_l1Skip_L1 (x.1, x.2) >>= fun s34 =>
    spec_l1Skip_L0 (x.1, s34)) else
    (bx x.1 x.2 >>= fun c35 =>
    (if c35 = 32 then spec_l1Skip_L0 (x.1, (IntKind.i64.wrap (x.2 + 1))) else
    (if c35 = 10 then spec_l1Skip_L0 (x.1, (IntKind.i64.wrap (x.2 + 1))) else
    some (.inl x.2))))))) else
    (bx x.1 x.2 >>= fun c38 =>
    (if c38 = 32 then spec_l1Skip_L0 (x.1, (IntKind.i64.wrap (x.2 + 1))) else
    (if c38 = 10 then spec_l1Skip_L0 (x.1, (IntKind.i64.wrap (x.2 + 1))) else
    some (.inl x.2))))) else
    some (.inr x.2))
  partial_fixpoint
def spec_l1Skip (x : (ByteArray × Int)) : Option Int :=
    (spec_l1Skip_L0 (x.1, x.2) >>= fun s41 =>
    (match s41 with
    | .inl r42 => some r42
    | .inr v43 => some v43))
def spec_l1Has_L0 (x : ((List ByteArray) × ByteArray × Int)) : Option (Sum Bool Unit) :=
    (if x.2.2 < ((x.1.length : Nat) : Int) then (ix x.1 x.2.2 >>= fun e5 =>
    (if e5 = x.2.1 then some (.inl true) else
    spec_l1Has_L0 (x.1, x.2.1, (IntKind.i64.wrap (x.2.2 + 1))))) else
    some (.inr ()))
  partial_fixpoint
def spec_l1Has (x : ((List ByteArray) × ByteArray)) : Option Bool :=
    (spec_l1Has_L0 (x.1, x.2, 0) >>= fun s7 =>
    (match s7 with
    | .inl r8 => some r8
    | .inr v9 => some false))
def spec_l1In (x : (Int × Int × Int)) : Option Bool :=
    (if x.2.1 ≤ x.1 then some (decide (x.1 ≤ x.2.2)) else
    some false)
def spec_l1Digit (x : Int) : Option Bool :=
    (spec_l1In ((IntKind.i64.wrap x), 48, 57) >>= fun r1 =>
    some r1)
def spec_l1Large (x : Int) : Option Bool :=
    (spec_l1In ((IntKind.i64.wrap x), 65, 90) >>= fun r1 =>
    some r1)
def spec_l1NumOk_L0 (x : (ByteArray × Int)) : Option (Sum Bool Unit) :=
    (if x.2 < ((x.1.size : Nat) : Int) then (bx x.1 x.2 >>= fun c6 =>
    (spec_l1Digit c6 >>= fun r7 =>
    (if r7 = true then spec_l1NumOk_L0 (x.1, (IntKind.i64.wrap (x.2 + 1))) else
    some (.inl false)))) else
    some (.inr ()))
  partial_fixpoint
def spec_l1NumOk (x : ByteArray) : Option Bool :=
    (spec_l1NumOk_L0 (x, 0) >>= fun s9 =>
    (match s9 with
    | .inl r10 => some r10
    | .inr v11 => (spec_l1In (((x.size : Nat) : Int), 1, 6) >>= fun r12 =>
    (if r12 = true then (if ((x.size : Nat) : Int) = 1 then some true else
    (bx x 0 >>= fun c15 =>
    some (!(decide (c15 = 48))))) else
    some false))))
def spec_l1IsWord (x : ByteArray) : Option Bool :=
    (spec_l1Has ([(⟨⟨[108, 101, 116]⟩⟩ : ByteArray), (⟨⟨[105, 110]⟩⟩ : ByteArray), (⟨⟨[119, 104, 101, 114, 101]⟩⟩ : ByteArray), (⟨⟨[99, 97, 115, 101]⟩⟩ : ByteArray), (⟨⟨[111, 102]⟩⟩ : ByteArray), (⟨⟨[105, 102]⟩⟩ : ByteArray), (⟨⟨[116, 104, 101, 110]⟩⟩ : ByteArray), (⟨⟨[101, 108, 115, 101]⟩⟩ : ByteArray), (⟨⟨[100, 97, 116, 97]⟩⟩ : ByteArray)], x) >>= fun r1 =>
    some r1)
def spec_l1Small (x : Int) : Option Bool :=
    (spec_l1In ((IntKind.i64.wrap x), 97, 122) >>= fun r1 =>
    some r1)
def spec_l1Letter (x : Int) : Option Bool :=
    (spec_l1Small x >>= fun r1 =>
    (if r1 = true then some true else
    (spec_l1Large x >>= fun r3 =>
    (if r3 = true then some true else
    (spec_l1Digit x >>= fun r5 =>
    some r5)))))
def spec_l1Letters_L0 (x : (ByteArray × Int)) : Option (Sum Bool Unit) :=
    (if x.2 < ((x.1.size : Nat) : Int) then (bx x.1 x.2 >>= fun c6 =>
    (spec_l1Letter c6 >>= fun r7 =>
    (if r7 = true then spec_l1Letters_L0 (x.1, (IntKind.i64.wrap (x.2 + 1))) else
    some (.inl false)))) else
    some (.inr ()))
  partial_fixpoint
def spec_l1Letters (x : ByteArray) : Option Bool :=
    (spec_l1Letters_L0 (x, 0) >>= fun s9 =>
    (match s9 with
    | .inl r10 => some r10
    | .inr v11 => (spec_l1In (((x.size : Nat) : Int), 1, 8) >>= fun r12 =>
    some r12)))
def spec_GreatOk (x : ByteArray) : Option Bool :=
    (spec_l1Letters x >>= fun r1 =>
    (if r1 = true then (bx x 0 >>= fun c3 =>
    (spec_l1Large c3 >>= fun r4 =>
    some r4)) else
    some false))
def spec_NameOk (x : ByteArray) : Option Bool :=
    (spec_l1Letters x >>= fun r1 =>
    (if r1 = true then (bx x 0 >>= fun c3 =>
    (spec_l1Small c3 >>= fun r4 =>
    (if r4 = true then (spec_l1IsWord x >>= fun r6 =>
    some (!r6)) else
    some false))) else
    some false))
def spec_l1Kind (x : ByteArray) : Option Int :=
    (spec_l1IsWord x >>= fun r1 =>
    (if r1 = true then some 4 else
    (spec_NameOk x >>= fun r3 =>
    (if r3 = true then some 1 else
    (spec_GreatOk x >>= fun r5 =>
    (if r5 = true then some 2 else
    some 0))))))
def spec_l1Next_L2 (x : (ByteArray × Int × Int)) : Option Int :=
    (if x.2.2 < ((x.1.size : Nat) : Int) then (bx x.1 x.2.2 >>= fun c46 =>
    (spec_l1Letter c46 >>= fun r47 =>
    (if r47 = true then spec_l1Next_L2 (x.1, x.2.1, (IntKind.i64.wrap (x.2.2 + 1))) else
    some x.2.2))) else
    some x.2.2)
  partial_fixpoint
def spec_l1Next_L1 (x : (ByteArray × Int × Int)) : Option Int :=
    (if x.2.2 < ((x.1.size : Nat) : Int) then (bx x.1 x.2.2 >>= fun c28 =>
    (spec_l1Letter c28 >>= fun r29 =>
    (if r29 = true then spec_l1Next_L1 (x.1, x.2.1, (IntKind.i64.wrap (x.2.2 + 1))) else
    some x.2.2))) else
    some x.2.2)
  partial_fixpoint
def spec_l1Next_L0 (x : (ByteArray × Int × Int)) : Option Int :=
    (if x.2.2 < ((x.1.size : Nat) : Int) then (bx x.1 x.2.2 >>= fun c9 =>
    (spec_l1Digit c9 >>= fun r10 =>
    (if r10 = true then spec_l1Next_L0 (x.1, x.2.1, (IntKind.i64.wrap (x.2.2 + 1))) else
    some x.2.2))) else
    some x.2.2)
  partial_fixpoint
def spec_l1Next (x : (ByteArray × Int)) : Option (Int × Int) :=
    (bx x.1 x.2 >>= fun c1 =>
    (spec_l1Digit c1 >>= fun r2 =>
    (if r2 = true then (spec_l1Next_L0 (x.1, x.2, x.2) >>= fun s12 =>
    (gd ((0 : Int) ≤ x.2) >>= fun u14 =>
    (gd ((x.2 : Int) ≤ s12) >>= fun u16 =>
    (gd (s12 ≤ ((x.1.size : Nat) : Int)) >>= fun u18 =>
    (spec_l1NumOk (x.1.extract x.2.toNat s12.toNat) >>= fun r19 =>
    (if r19 = true then some ((IntKind.i64.wrap (s12 - x.2)), 3) else
    some (0, 0))))))) else
    (spec_l1Small c1 >>= fun r21 =>
    (if r21 = true then (spec_l1Next_L1 (x.1, x.2, x.2) >>= fun s31 =>
    (gd ((0 : Int) ≤ x.2) >>= fun u33 =>
    (gd ((x.2 : Int) ≤ s31) >>= fun u35 =>
    (gd (s31 ≤ ((x.1.size : Nat) : Int)) >>= fun u37 =>
    (spec_l1Kind (x.1.extract x.2.toNat s31.toNat) >>= fun r38 =>
    some ((IntKind.i64.wrap (s31 - x.2)), r38)))))) else
    (spec_l1Large c1 >>= fun r39 =>
    (if r39 = true then (spec_l1Next_L2 (x.1, x.2, x.2) >>= fun s49 =>
    (gd ((0 : Int) ≤ x.2) >>= fun u51 =>
    (gd ((x.2 : Int) ≤ s49) >>= fun u53 =>
    (gd (s49 ≤ ((x.1.size : Nat) : Int)) >>= fun u55 =>
    (spec_l1Kind (x.1.extract x.2.toNat s49.toNat) >>= fun r56 =>
    some ((IntKind.i64.wrap (s49 - x.2)), r56)))))) else
    (if (IntKind.i64.wrap (x.2 + 2)) ≤ ((x.1.size : Nat) : Int) then (gd ((0 : Int) ≤ x.2) >>= fun u59 =>
    (gd ((x.2 : Int) ≤ (IntKind.i64.wrap (x.2 + 2))) >>= fun u61 =>
    (if (x.1.extract x.2.toNat (IntKind.i64.wrap (x.2 + 2)).toNat) = (⟨⟨[45, 62]⟩⟩ : ByteArray) then some (2, 5) else
    (if (x.1.extract x.2.toNat (IntKind.i64.wrap (x.2 + 2)).toNat) = (⟨⟨[61, 61]⟩⟩ : ByteArray) then some (2, 5) else
    (gd ((x.2 : Int) ≤ (IntKind.i64.wrap (x.2 + 1))) >>= fun u65 =>
    (gd ((IntKind.i64.wrap (x.2 + 1)) ≤ ((x.1.size : Nat) : Int)) >>= fun u67 =>
    (spec_l1Has ([(⟨⟨[40]⟩⟩ : ByteArray), (⟨⟨[41]⟩⟩ : ByteArray), (⟨⟨[123]⟩⟩ : ByteArray), (⟨⟨[125]⟩⟩ : ByteArray), (⟨⟨[59]⟩⟩ : ByteArray), (⟨⟨[61]⟩⟩ : ByteArray), (⟨⟨[92]⟩⟩ : ByteArray), (⟨⟨[124]⟩⟩ : ByteArray), (⟨⟨[43]⟩⟩ : ByteArray), (⟨⟨[45]⟩⟩ : ByteArray), (⟨⟨[42]⟩⟩ : ByteArray), (⟨⟨[60]⟩⟩ : ByteArray), (⟨⟨[95]⟩⟩ : ByteArray)], (x.1.extract x.2.toNat (IntKind.i64.wrap (x.2 + 1)).toNat)) >>= fun r68 =>
    (if r68 = true then some (1, 5) else
    some (0, 0))))))))) else
    (gd ((0 : Int) ≤ x.2) >>= fun u71 =>
    (gd ((x.2 : Int) ≤ (IntKind.i64.wrap (x.2 + 1))) >>= fun u73 =>
    (gd ((IntKind.i64.wrap (x.2 + 1)) ≤ ((x.1.size : Nat) : Int)) >>= fun u75 =>
    (spec_l1Has ([(⟨⟨[40]⟩⟩ : ByteArray), (⟨⟨[41]⟩⟩ : ByteArray), (⟨⟨[123]⟩⟩ : ByteArray), (⟨⟨[125]⟩⟩ : ByteArray), (⟨⟨[59]⟩⟩ : ByteArray), (⟨⟨[61]⟩⟩ : ByteArray), (⟨⟨[92]⟩⟩ : ByteArray), (⟨⟨[124]⟩⟩ : ByteArray), (⟨⟨[43]⟩⟩ : ByteArray), (⟨⟨[45]⟩⟩ : ByteArray), (⟨⟨[42]⟩⟩ : ByteArray), (⟨⟨[60]⟩⟩ : ByteArray), (⟨⟨[95]⟩⟩ : ByteArray)], (x.1.extract x.2.toNat (IntKind.i64.wrap (x.2 + 1)).toNat)) >>= fun r76 =>
    (if r76 = true then some (1, 5) else
    some (0, 0))))))))))))))
def spec_l1Place_L0 (x : (ByteArray × Int × Int × Int × Int)) : Option (Int × Int) :=
    (if x.2.2.2.2 < x.2.1 then (bx x.1 x.2.2.2.2 >>= fun c5 =>
    (if c5 = 10 then spec_l1Place_L0 (x.1, x.2.1, (IntKind.i64.wrap (x.2.2.1 + 1)), 1, (IntKind.i64.wrap (x.2.2.2.2 + 1))) else
    spec_l1Place_L0 (x.1, x.2.1, x.2.2.1, (IntKind.i64.wrap (x.2.2.2.1 + 1)), (IntKind.i64.wrap (x.2.2.2.2 + 1))))) else
    some (x.2.2.1, x.2.2.2.1))
  partial_fixpoint
def spec_l1Place (x : (ByteArray × Int)) : Option (Int × Int) :=
    (spec_l1Place_L0 (x.1, x.2, 1, 1, 0) >>= fun s7 =>
    some (s7.1, s7.2))
def spec_Lex_L1 (x : (ByteArray × (List Tok) × Int × (Int × Int) × Int × Int × Int)) : Option (Int × Int) :=
    (if x.2.2.2.2.2.2 < x.2.2.1 then (bx x.1 x.2.2.2.2.2.2 >>= fun c32 =>
    (if c32 = 10 then spec_Lex_L1 (x.1, x.2.1, x.2.2.1, x.2.2.2.1, (IntKind.i64.wrap (x.2.2.2.2.1 + 1)), (IntKind.i64.wrap (x.2.2.2.2.2.2 + 1)), (IntKind.i64.wrap (x.2.2.2.2.2.2 + 1))) else
    spec_Lex_L1 (x.1, x.2.1, x.2.2.1, x.2.2.2.1, x.2.2.2.2.1, x.2.2.2.2.2.1, (IntKind.i64.wrap (x.2.2.2.2.2.2 + 1))))) else
    some (x.2.2.2.2.1, x.2.2.2.2.2.1))
  partial_fixpoint
def spec_Lex_L0 (x : (ByteArray × (List Tok) × Int × Int × Int × Int)) : Option (Sum ((List Tok) × Bool) (List Tok)) :=
    (if x.2.2.2.2.2 < ((x.1.size : Nat) : Int) then (if ((x.1.size : Nat) : Int) ≤ 1500 then (spec_l1Next (x.1, x.2.2.2.2.2) >>= fun r25 =>
    (if r25.2 = 0 then some (.inl ([], false)) else
    (if 400 ≤ ((x.2.1.length : Nat) : Int) then some (.inl ([], false)) else
    (spec_Lex_L1 (x.1, x.2.1, x.2.2.2.2.2, r25, x.2.2.1, x.2.2.2.1, x.2.2.2.2.1) >>= fun s34 =>
    (gd ((0 : Int) ≤ x.2.2.2.2.2) >>= fun u36 =>
    (gd ((x.2.2.2.2.2 : Int) ≤ (IntKind.i64.wrap (x.2.2.2.2.2 + r25.1))) >>= fun u38 =>
    (gd ((IntKind.i64.wrap (x.2.2.2.2.2 + r25.1)) ≤ ((x.1.size : Nat) : Int)) >>= fun u40 =>
    (gd (x.2.1.length + 1 ≤ grow) >>= fun u42 =>
    (spec_l1Skip (x.1, (IntKind.i64.wrap (x.2.2.2.2.2 + r25.1))) >>= fun r43 =>
    spec_Lex_L0 (x.1, (x.2.1 ++ [(Tok.mk r25.2 (x.1.extract x.2.2.2.2.2.toNat (IntKind.i64.wrap (x.2.2.2.2.2 + r25.1)).toNat) s34.1 (IntKind.i64.wrap ((IntKind.i64.wrap (x.2.2.2.2.2 - s34.2)) + 1)))]), s34.1, s34.2, x.2.2.2.2.2, r43)))))))))) else
    some (.inr x.2.1)) else
    some (.inr x.2.1))
  partial_fixpoint
def spec_Lex (x : ByteArray) : Option ((List Tok) × Bool) :=
    (spec_l1Skip (x, 0) >>= fun r1 =>
    (spec_Lex_L0 (x, [], 1, 0, 0, r1) >>= fun s44 =>
    (match s44 with
    | .inl r45 => some r45
    | .inr v46 => (if 1500 < ((x.size : Nat) : Int) then some ([], false) else
    (if 400 ≤ ((v46.length : Nat) : Int) then some ([], false) else
    (spec_l1Place (x, ((x.size : Nat) : Int)) >>= fun r49 =>
    (gd (v46.length + 1 ≤ grow) >>= fun u51 =>
    some ((v46 ++ [(Tok.mk 6 (⟨⟨[]⟩⟩ : ByteArray) r49.1 r49.2)]), true))))))))
def laws_FnLex_L0 (x : (((List Tok) × Bool) × ((List Tok) × Bool) × Int)) : Option (Sum Bool Unit) :=
    (if x.2.2 < ((x.1.1.length : Nat) : Int) then (if x.2.2 < ((x.2.1.1.length : Nat) : Int) then (ix x.1.1 x.2.2 >>= fun e35 =>
    (ix x.2.1.1 x.2.2 >>= fun e36 =>
    (if e35.K = e36.K then (if e35.S = e36.S then (if e36.Line = 1 then (if 0 < x.2.2 then (ix x.1.1 (IntKind.i64.wrap (x.2.2 - 1)) >>= fun e41 =>
    (if e35.Line < e41.Line then some (.inl false) else
    (if e35.Line = e41.Line then (if e35.Col < e41.Col then some (.inl false) else
    laws_FnLex_L0 (x.1, x.2.1, (IntKind.i64.wrap (x.2.2 + 1)))) else
    laws_FnLex_L0 (x.1, x.2.1, (IntKind.i64.wrap (x.2.2 + 1)))))) else
    laws_FnLex_L0 (x.1, x.2.1, (IntKind.i64.wrap (x.2.2 + 1)))) else
    some (.inl false)) else
    some (.inl false)) else
    some (.inl false)))) else
    some (.inr ())) else
    some (.inr ()))
  partial_fixpoint
def laws_FnLex (x : (List Int)) : Option Bool :=
    (laws_big x >>= fun r1 =>
    (if r1 = true then some true else
    (spec_DrawLex x >>= fun r3 =>
    (impl_Lex r3 >>= fun r4 =>
    (spec_Lex r3 >>= fun r5 =>
    (spec_DrawNameOk x >>= fun r6 =>
    (spec_DrawGreatOk x >>= fun r7 =>
    (if (r4.2 == r5.2) = true then (laws_sameToks (r4.1, r5.1) >>= fun r9 =>
    (if r9 = true then (impl_NameOk r6 >>= fun r11 =>
    (spec_NameOk r6 >>= fun r12 =>
    (if (r11 == r12) = true then (impl_GreatOk r7 >>= fun r14 =>
    (spec_GreatOk r7 >>= fun r15 =>
    (if (r14 == r15) = true then (if r4.2 = true then (impl_TokText r4.1 >>= fun r18 =>
    (impl_Lex r18 >>= fun r19 =>
    (if 1500 < ((r18.size : Nat) : Int) then some (!r19.2) else
    (laws_FnLex_L0 (r4, r19, 0) >>= fun s45 =>
    (match s45 with
    | .inl r46 => some r46
    | .inr v47 => (if r19.2 = true then (if ((r19.1.length : Nat) : Int) = ((r4.1.length : Nat) : Int) then (ix r4.1 (IntKind.i64.wrap (((r4.1.length : Nat) : Int) - 1)) >>= fun e50 =>
    some (decide (e50.K = 6))) else
    some false) else
    some false)))))) else
    some (decide (((r4.1.length : Nat) : Int) = 0))) else
    some false))) else
    some false))) else
    some false)) else
    some false))))))))
end M
end W
