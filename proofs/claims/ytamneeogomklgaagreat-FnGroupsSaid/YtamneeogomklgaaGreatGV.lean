import Derived.Test.YtamneeogomklgaaGreatGTab
set_option linter.unusedSimpArgs false
set_option linter.unusedVariables false
set_option linter.unusedSectionVars false
namespace W
open Go HL HL.X
set_option linter.unusedVariables false
set_option maxRecDepth 1000000
set_option maxHeartbeats 4000000
namespace Ev
theorem meet_self {O : Type} (a : Option O) : X.meet a a = a := by simp [X.meet]
structure Fs where
  a0 : Unit → Option (Ty)
  a1 : ByteArray → Option (Ty)
  a2 : ByteArray → Option (Exp)
  a3 : Int → Option (Exp)
  a4 : Exp × Exp → Option (Exp)
  a5 : ByteArray × Int → Option (Int ⊕ Int)
  a6 : ByteArray × Int → Option (Int)
  a7 : ByteArray × Int → Option (Int)
  a8 : Int × Int × Int → Option (Bool)
  a9 : Int → Option (Bool)
  a10 : ByteArray × Int → Option (Bool ⊕ Unit)
  a11 : ByteArray → Option (Bool)
  a12 : Int → Option (Bool)
  a13 : Int → Option (Bool)
  a14 : Int → Option (Bool)
  a15 : (List ByteArray) × ByteArray × Int → Option (Bool ⊕ Unit)
  a16 : (List ByteArray) × ByteArray → Option (Bool)
  a17 : ByteArray → Option (Bool)
  a18 : ByteArray × Int → Option (Bool ⊕ Unit)
  a19 : ByteArray → Option (Bool)
  a20 : ByteArray → Option (Bool)
  a21 : ByteArray → Option (Bool)
  a22 : ByteArray → Option (Int)
  a23 : ByteArray × Int → Option (Int)
  a24 : ByteArray × Int → Option (Int)
  a25 : ByteArray × Int → Option (Int × Int)
  a26 : ByteArray × Int × Int × Int × Int → Option (Int × Int)
  a27 : ByteArray × Int → Option (Int × Int)
  a28 : ByteArray × Int × Int × Int × Int × (List Tok) → Option ((Bool × (List Tok)) ⊕ (List Tok))
  a29 : ByteArray × Int × Int × Int × Int × (List Tok) → Option (Int × Int × (List Tok))
  a30 : ByteArray → Option (Bool × (List Tok))
  a31 : Tok × Int × ByteArray → Option (Bool)
  a32 : Int × Bool × Bool × (List Tok) × (List Int) → Option (Bool × Bool × (List Tok) × (List Int))
  a33 : ByteArray × Bool × Bool × (List Tok) × (List Int) → Option (Bool × Bool × (List Tok))
  a34 : Int × Int × Bool × Bool × (List Tok) × (List Int) → Option (Int × Bool × Bool)
  a35 : Bool × Bool × (List Tok) × (List Int) → Option (Int × Bool × Bool)
  a36 : Tok → Option (Int)
  a37 : Bool × Bool × (List Tok) × (List Int) → Option (Int × Bool × Bool)
  a38 : (List Int) × Bool × Bool × (List Tok) → Option (Bool × Bool × (List Int))
  a39 : Tok → Option (List Int)
  a40 : Int × Bool × Bool × (List Tok) × Tok × (List Int) → Option (Bool × Bool × (List Tok) × Tok × (List Int))
  a41 : Int × Bool × Bool × (List Tok) × Tok × (List Int) × (List Int) → Option (Bool × Bool × (List Tok) × Tok × (List Int))
  a42 : Tok × Bool × Bool × (List Tok) × (List Int) → Option (Bool × Bool × (List Tok) × (List Int))
  a43 : Bool × Bool × (List Tok) × Tok × (List Int) → Option (Bool × Bool × (List Tok) × Tok × (List Int))
  a44 : Tok × Bool × Bool × (List Tok) × (List Int) → Option (Bool × Bool × (List Tok) × (List Int))
  a45 : Tok × Int × Bool × Bool × (List Tok) × (List Int) → Option (Bool × Bool × (List Tok) × (List Int))
  a46 : (List Tok) × Int × Int × Bool × Bool × (List Tok) × (List Int) → Option (Bool × Bool × (List Tok) × (List Int))
  a47 : List Tok → Option (Bool × (List Tok))
  a48 : Int × ByteArray × spec_l4Reader → Option (Bool × spec_l4Reader)
  a49 : ByteArray × spec_l4Reader → Option (Bool × spec_l4Reader)
  a50 : Bool × spec_l4Reader → Option (spec_l4Reader)
  a51 : ByteArray → Option (spec_l4Reader)
  a52 : ByteArray × spec_l4Reader → Option (Bool × spec_l4Reader)
  a53 : Int × spec_l4Reader → Option (Bool × spec_l4Reader)
  a54 : spec_l4Reader → Option (Tok × spec_l4Reader)
  a55 : spec_l4Reader → Option (Tok × spec_l4Reader)
  a56 : spec_l4Reader → Option (ByteArray × spec_l4Reader)
  a57 : ByteArray → Option (Ty)
  a58 : Ty × Ty → Option (Ty)
  a59 : spec_l4Reader → Option (Ty × spec_l4Reader)
  a60 : spec_l4Reader → Option (Ty × spec_l4Reader)
  a61 : spec_l4Reader × Con × ByteArray × (List Ty) → Option (spec_l4Reader × Con × ByteArray × (List Ty))
  a62 : spec_l4Reader → Option (Con × spec_l4Reader)
  a63 : spec_l4Reader × Data × ByteArray × (List Con) → Option (spec_l4Reader × Data × ByteArray × (List Con))
  a64 : spec_l4Reader → Option (Data × spec_l4Reader)
  a65 : spec_l4Reader → Option (Bool × spec_l4Reader)
  a66 : spec_l4Reader → Option (ByteArray × spec_l4Reader)
  a67 : spec_l4Reader × (List ByteArray) → Option (spec_l4Reader × (List ByteArray))
  a68 : spec_l4Reader → Option (spec_l4Reader × (List ByteArray))
  a69 : Bool × spec_l4Reader × (List Dec) → Option (spec_l4Reader × (List Dec))
  a70 : spec_l4Reader → Option (spec_l4Reader × (List Dec))
  a71 : spec_l4Reader → Option (Alt × spec_l4Reader)
  a72 : Bool × spec_l4Reader × (List Alt) → Option (spec_l4Reader × (List Alt))
  a73 : spec_l4Reader → Option (spec_l4Reader × (List Alt))
  a74 : Int × ByteArray × Int × spec_l4Reader × Exp → Option (Int × spec_l4Reader × Exp)
  a75 : spec_l4Reader → Option (Exp × spec_l4Reader)
  a76 : spec_l4Reader → Option (Bool × spec_l4Reader)
  a77 : spec_l4Reader × Exp × Exp → Option (spec_l4Reader × Exp × Exp)
  a78 : spec_l4Reader → Option (Exp × spec_l4Reader)
  a79 : ByteArray × Exp × Exp → Option (Exp)
  a80 : spec_l4Reader × Exp × Exp → Option (spec_l4Reader × Exp × Exp)
  a81 : spec_l4Reader → Option (Exp × spec_l4Reader)
  a82 : Bool × spec_l4Reader × Exp × Exp → Option (spec_l4Reader × Exp × Exp)
  a83 : Bool × Int × Int × spec_l4Reader × Exp × Exp × (List ByteArray) → Option (Bool × spec_l4Reader × Exp × Exp)
  a84 : spec_l4Reader → Option (Exp × spec_l4Reader)
  a85 : Int × Int × spec_l4Reader × Exp × Exp × (List ByteArray) → Option ((spec_l4Reader × Exp) ⊕ (spec_l4Reader × Exp × Exp))
  a86 : spec_l4Reader → Option (Exp × spec_l4Reader)
  a87 : spec_l4Reader → Option (Exp × spec_l4Reader)
  a88 : spec_l4Reader → Option (Exp × spec_l4Reader)
  a89 : spec_l4Reader → Option (Dec × spec_l4Reader)
  a90 : spec_l4Reader → Option (Bool × spec_l4Reader)
  a91 : ByteArray → Option (Bool)
  a92 : ByteArray × Int × Int × Prog → Option (Int)
  a93 : ByteArray × Int × Int × Int × Prog → Option (Int × Prog)
  a94 : Prog × ByteArray → Option (Int)
  a95 : Ty × Int → Option (Int)
  a96 : Int × Int × Prog × Data → Option (Bool ⊕ (Prog × Data))
  a97 : Int × Prog × Data → Option (Bool ⊕ Data)
  a98 : Int × Prog × Data × Con → Option (Bool ⊕ (Prog × Data))
  a99 : Prog × Int → Option (Bool)
  a100 : (List ByteArray) × Int → Option (Bool ⊕ Unit)
  a101 : List ByteArray → Option (Bool)
  a102 : Int → Option (Int)
  a103 : ByteArray → Option (Bool)
  a104 : Exp → Option (Bool)
  a105 : Alt → Option (Bool)
  a106 : Int × Int × Int × Exp → Option (Int × Exp)
  a107 : Int × Int × Int × Exp → Option (Int ⊕ (Int × Exp))
  a108 : Exp × Int → Option (Int)
  a109 : (List Dec) × Int × Int × Int → Option (Int ⊕ Int)
  a110 : (List Dec) × Int × Int → Option (Int ⊕ Unit)
  a111 : (List Dec) × Int × Int → Option (Int)
  a112 : Int × Prog → Option (Bool ⊕ Prog)
  a113 : Prog → Option (Bool)
  a114 : Bool × Prog × spec_l4Reader × (List Data) × (List Dec) → Option (Prog × spec_l4Reader × (List Data) × (List Dec))
  a115 : ByteArray → Option (Prog × Bool)
def step (F : Fs) : Fs where
  a0 := fun x => some (Ty.mk 1 (⟨⟨[]⟩⟩ : ByteArray) 0 [])
  a1 := fun x => some (Ty.mk 3 x 0 [])
  a2 := fun x => some (Exp.mk 1 x 0 [] [] [])
  a3 := fun x => some (Exp.mk 3 (⟨⟨[]⟩⟩ : ByteArray) x [] [] [])
  a4 := fun x => some (Exp.mk 4 (⟨⟨[]⟩⟩ : ByteArray) 0 [x.1, x.2] [] [])
  a5 := fun x => bif decide (x.2 < (x.1.size : Int)) then ((bif decide ((IntKind.i64.wrap (x.2 + 2)) ≤ (x.1.size : Int)) then ((gd (0 ≤ x.2)).bind fun _ =>
          (gd (x.2 ≤ (IntKind.i64.wrap (x.2 + 2)))).bind fun _ =>
          (gd ((IntKind.i64.wrap (x.2 + 2)) ≤ (x.1.size : Int))).bind fun _ =>
          some (decide ((x.1.extract x.2.toNat (IntKind.i64.wrap (x.2 + 2)).toNat) = (⟨⟨[45, 45]⟩⟩ : ByteArray)))) else
        some false).bind fun s1 =>
      bif s1 then ((F.a6 (x.1, x.2)).bind fun s2 =>
        F.a5 (x.1, s2)) else
      (bx x.1 x.2).bind fun b3 =>
      bif (!decide (b3 = 32)) then ((bx x.1 x.2).bind fun b4 =>
        bif (!decide (b4 = 10)) then some (.inl x.2) else
        F.a5 (x.1, (IntKind.i64.wrap (x.2 + 1)))) else
      F.a5 (x.1, (IntKind.i64.wrap (x.2 + 1)))) else
    some (.inr x.2)
  a6 := fun x => bif decide (x.2 < (x.1.size : Int)) then ((bx x.1 x.2).bind fun b1 =>
      bif (!decide (b1 = 10)) then F.a6 (x.1, (IntKind.i64.wrap (x.2 + 1))) else
      some x.2) else
    some x.2
  a7 := fun x => (F.a5 (x.1, x.2)).bind fun s1 =>
    Sum.elim (fun a2 =>
      some a2) (fun b3 =>
      some b3) s1
  a8 := fun x => bif decide (x.2.1 ≤ x.1) then some (decide (x.1 ≤ x.2.2)) else
    some false
  a9 := fun x => (F.a8 ((IntKind.i64.wrap x), 48, 57)).bind fun r1 =>
    some r1
  a10 := fun x => bif decide (x.2 < (x.1.size : Int)) then ((bx x.1 x.2).bind fun b1 =>
      (F.a9 b1).bind fun r2 =>
      bif (!r2) then some (.inl false) else
      F.a10 (x.1, (IntKind.i64.wrap (x.2 + 1)))) else
    some (.inr ())
  a11 := fun x => (F.a10 (x, 0)).bind fun s1 =>
    Sum.elim (fun a2 =>
      some a2) (fun b3 =>
      (F.a8 ((x.size : Int), 1, 6)).bind fun r4 =>
      bif r4 then (bif decide ((x.size : Int) = 1) then some true else
        (bx x 0).bind fun b5 =>
        some (!decide (b5 = 48))) else
      some false) s1
  a12 := fun x => (F.a8 ((IntKind.i64.wrap x), 97, 122)).bind fun r1 =>
    some r1
  a13 := fun x => (F.a8 ((IntKind.i64.wrap x), 65, 90)).bind fun r1 =>
    some r1
  a14 := fun x => (F.a12 x).bind fun r1 =>
    bif r1 then some true else
    (F.a13 x).bind fun r2 =>
    bif r2 then some true else
    (F.a9 x).bind fun r3 =>
    some r3
  a15 := fun x => bif decide (x.2.2 < (x.1.length : Int)) then ((ix x.1 x.2.2).bind fun e1 =>
      bif decide (e1 = x.2.1) then some (.inl true) else
      F.a15 (x.1, x.2.1, (IntKind.i64.wrap (x.2.2 + 1)))) else
    some (.inr ())
  a16 := fun x => (F.a15 (x.1, x.2, 0)).bind fun s1 =>
    Sum.elim (fun a2 =>
      some a2) (fun b3 =>
      some false) s1
  a17 := fun x => (F.a16 ([(⟨⟨[108, 101, 116]⟩⟩ : ByteArray), (⟨⟨[105, 110]⟩⟩ : ByteArray), (⟨⟨[119, 104, 101, 114, 101]⟩⟩ : ByteArray), (⟨⟨[99, 97, 115, 101]⟩⟩ : ByteArray), (⟨⟨[111, 102]⟩⟩ : ByteArray), (⟨⟨[105, 102]⟩⟩ : ByteArray), (⟨⟨[116, 104, 101, 110]⟩⟩ : ByteArray), (⟨⟨[101, 108, 115, 101]⟩⟩ : ByteArray), (⟨⟨[100, 97, 116, 97]⟩⟩ : ByteArray)], x)).bind fun r1 =>
    some r1
  a18 := fun x => bif decide (x.2 < (x.1.size : Int)) then ((bx x.1 x.2).bind fun b1 =>
      (F.a14 b1).bind fun r2 =>
      bif (!r2) then some (.inl false) else
      F.a18 (x.1, (IntKind.i64.wrap (x.2 + 1)))) else
    some (.inr ())
  a19 := fun x => (F.a18 (x, 0)).bind fun s1 =>
    Sum.elim (fun a2 =>
      some a2) (fun b3 =>
      (F.a8 ((x.size : Int), 1, 8)).bind fun r4 =>
      some r4) s1
  a20 := fun x => (F.a19 x).bind fun r1 =>
    bif r1 then ((bx x 0).bind fun b2 =>
      (F.a12 b2).bind fun r3 =>
      bif r3 then ((F.a17 x).bind fun r4 =>
        some (!r4)) else
      some false) else
    some false
  a21 := fun x => (F.a19 x).bind fun r1 =>
    bif r1 then ((bx x 0).bind fun b2 =>
      (F.a13 b2).bind fun r3 =>
      some r3) else
    some false
  a22 := fun x => (F.a17 x).bind fun r1 =>
    bif r1 then some 4 else
    (F.a20 x).bind fun r2 =>
    bif r2 then some 1 else
    (F.a21 x).bind fun r3 =>
    bif r3 then some 2 else
    some 0
  a23 := fun x => bif decide (x.2 < (x.1.size : Int)) then ((bx x.1 x.2).bind fun b1 =>
      (F.a9 b1).bind fun r2 =>
      bif r2 then F.a23 (x.1, (IntKind.i64.wrap (x.2 + 1))) else
      some x.2) else
    some x.2
  a24 := fun x => bif decide (x.2 < (x.1.size : Int)) then ((bx x.1 x.2).bind fun b1 =>
      (F.a14 b1).bind fun r2 =>
      bif r2 then F.a24 (x.1, (IntKind.i64.wrap (x.2 + 1))) else
      some x.2) else
    some x.2
  a25 := fun x => (bx x.1 x.2).bind fun b1 =>
    (F.a9 b1).bind fun r2 =>
    bif r2 then ((F.a23 (x.1, x.2)).bind fun s3 =>
      (gd (0 ≤ x.2)).bind fun _ =>
      (gd (x.2 ≤ s3)).bind fun _ =>
      (gd (s3 ≤ (x.1.size : Int))).bind fun _ =>
      (F.a11 (x.1.extract x.2.toNat s3.toNat)).bind fun r4 =>
      bif (!r4) then some (0, 0) else
      some ((IntKind.i64.wrap (s3 - x.2)), 3)) else
    ((F.a12 b1).bind fun r5 =>
      bif r5 then some true else
      (F.a13 b1).bind fun r6 =>
      some r6).bind fun s7 =>
    bif s7 then ((F.a24 (x.1, x.2)).bind fun s8 =>
      (gd (0 ≤ x.2)).bind fun _ =>
      (gd (x.2 ≤ s8)).bind fun _ =>
      (gd (s8 ≤ (x.1.size : Int))).bind fun _ =>
      (F.a22 (x.1.extract x.2.toNat s8.toNat)).bind fun r9 =>
      some ((IntKind.i64.wrap (s8 - x.2)), r9)) else
    (bif decide ((IntKind.i64.wrap (x.2 + 2)) ≤ (x.1.size : Int)) then ((gd (0 ≤ x.2)).bind fun _ =>
        (gd (x.2 ≤ (IntKind.i64.wrap (x.2 + 2)))).bind fun _ =>
        (gd ((IntKind.i64.wrap (x.2 + 2)) ≤ (x.1.size : Int))).bind fun _ =>
        bif decide ((x.1.extract x.2.toNat (IntKind.i64.wrap (x.2 + 2)).toNat) = (⟨⟨[45, 62]⟩⟩ : ByteArray)) then some (.inl (2, 5)) else
        (gd (0 ≤ x.2)).bind fun _ =>
        (gd (x.2 ≤ (IntKind.i64.wrap (x.2 + 2)))).bind fun _ =>
        (gd ((IntKind.i64.wrap (x.2 + 2)) ≤ (x.1.size : Int))).bind fun _ =>
        bif decide ((x.1.extract x.2.toNat (IntKind.i64.wrap (x.2 + 2)).toNat) = (⟨⟨[61, 61]⟩⟩ : ByteArray)) then some (.inl (2, 5)) else
        some (.inr ())) else
      some (.inr ())).bind fun s10 =>
    Sum.elim (fun a11 =>
      some (a11.1, a11.2)) (fun b12 =>
      (gd (0 ≤ x.2)).bind fun _ =>
      (gd (x.2 ≤ (IntKind.i64.wrap (x.2 + 1)))).bind fun _ =>
      (gd ((IntKind.i64.wrap (x.2 + 1)) ≤ (x.1.size : Int))).bind fun _ =>
      (F.a16 ([(⟨⟨[40]⟩⟩ : ByteArray), (⟨⟨[41]⟩⟩ : ByteArray), (⟨⟨[123]⟩⟩ : ByteArray), (⟨⟨[125]⟩⟩ : ByteArray), (⟨⟨[59]⟩⟩ : ByteArray), (⟨⟨[61]⟩⟩ : ByteArray), (⟨⟨[92]⟩⟩ : ByteArray), (⟨⟨[124]⟩⟩ : ByteArray), (⟨⟨[43]⟩⟩ : ByteArray), (⟨⟨[45]⟩⟩ : ByteArray), (⟨⟨[42]⟩⟩ : ByteArray), (⟨⟨[60]⟩⟩ : ByteArray), (⟨⟨[95]⟩⟩ : ByteArray)], (x.1.extract x.2.toNat (IntKind.i64.wrap (x.2 + 1)).toNat))).bind fun r13 =>
      bif r13 then some (1, 5) else
      some (0, 0)) s10
  a26 := fun x => bif decide (x.2.2.2.2 < x.2.1) then ((bx x.1 x.2.2.2.2).bind fun b1 =>
      bif decide (b1 = 10) then F.a26 (x.1, x.2.1, (IntKind.i64.wrap (x.2.2.1 + 1)), 1, (IntKind.i64.wrap (x.2.2.2.2 + 1))) else
      F.a26 (x.1, x.2.1, x.2.2.1, (IntKind.i64.wrap (x.2.2.2.1 + 1)), (IntKind.i64.wrap (x.2.2.2.2 + 1)))) else
    some (x.2.2.1, x.2.2.2.1)
  a27 := fun x => (F.a26 (x.1, x.2, 1, 1, 0)).bind fun s1 =>
    some (s1.1, s1.2)
  a28 := fun x => bif decide (x.2.2.2.2.1 < (x.1.size : Int)) then (bif decide ((x.1.size : Int) ≤ 1500) then ((F.a25 (x.1, x.2.2.2.2.1)).bind fun r1 =>
        bif decide (r1.2 = 0) then some (.inl (false, [])) else
        bif decide (400 ≤ (x.2.2.2.2.2.length : Int)) then some (.inl (false, [])) else
        (F.a29 (x.1, x.2.1, x.2.2.1, x.2.2.2.2.1, x.2.2.2.1, x.2.2.2.2.2)).bind fun s2 =>
        (gd (0 ≤ x.2.2.2.2.1)).bind fun _ =>
        (gd (x.2.2.2.2.1 ≤ (IntKind.i64.wrap (x.2.2.2.2.1 + r1.1)))).bind fun _ =>
        (gd ((IntKind.i64.wrap (x.2.2.2.2.1 + r1.1)) ≤ (x.1.size : Int))).bind fun _ =>
        (gd (s2.2.2.length + [(Tok.mk r1.2 (x.1.extract x.2.2.2.2.1.toNat (IntKind.i64.wrap (x.2.2.2.2.1 + r1.1)).toNat) s2.1 (IntKind.i64.wrap ((IntKind.i64.wrap (x.2.2.2.2.1 - s2.2.1)) + 1)))].length ≤ grow)).bind fun _ =>
        (F.a7 (x.1, (IntKind.i64.wrap (x.2.2.2.2.1 + r1.1)))).bind fun r3 =>
        F.a28 (x.1, s2.1, s2.2.1, x.2.2.2.2.1, r3, (s2.2.2 ++ [(Tok.mk r1.2 (x.1.extract x.2.2.2.2.1.toNat (IntKind.i64.wrap (x.2.2.2.2.1 + r1.1)).toNat) s2.1 (IntKind.i64.wrap ((IntKind.i64.wrap (x.2.2.2.2.1 - s2.2.1)) + 1)))]))) else
      some (.inr x.2.2.2.2.2)) else
    some (.inr x.2.2.2.2.2)
  a29 := fun x => bif decide (x.2.2.2.2.1 < x.2.2.2.1) then ((bx x.1 x.2.2.2.2.1).bind fun b1 =>
      bif decide (b1 = 10) then F.a29 (x.1, (IntKind.i64.wrap (x.2.1 + 1)), (IntKind.i64.wrap (x.2.2.2.2.1 + 1)), x.2.2.2.1, (IntKind.i64.wrap (x.2.2.2.2.1 + 1)), x.2.2.2.2.2) else
      F.a29 (x.1, x.2.1, x.2.2.1, x.2.2.2.1, (IntKind.i64.wrap (x.2.2.2.2.1 + 1)), x.2.2.2.2.2)) else
    some (x.2.1, x.2.2.1, x.2.2.2.2.2)
  a30 := fun x => (F.a7 (x, 0)).bind fun r1 =>
    (F.a28 (x, 1, 0, 0, r1, [])).bind fun s2 =>
    Sum.elim (fun a3 =>
      some (a3.1, a3.2)) (fun b4 =>
      bif decide (1500 < (x.size : Int)) then some (false, []) else
      bif decide (400 ≤ (b4.length : Int)) then some (false, []) else
      (F.a27 (x, (x.size : Int))).bind fun r5 =>
      (gd (b4.length + [(Tok.mk 6 (⟨⟨[]⟩⟩ : ByteArray) r5.1 r5.2)].length ≤ grow)).bind fun _ =>
      some (true, (b4 ++ [(Tok.mk 6 (⟨⟨[]⟩⟩ : ByteArray) r5.1 r5.2)]))) s2
  a31 := fun x => bif decide (x.1.K = x.2.1) then some (decide (x.1.S = x.2.2)) else
    some false
  a32 := fun x => (gd (x.2.2.2.2.length + [x.1].length ≤ grow)).bind fun _ =>
    some (x.2.1, x.2.2.1, x.2.2.2.1, (x.2.2.2.2 ++ [x.1]))
  a33 := fun x => (gd (x.2.2.2.1.length + [(Tok.mk 5 x.1 0 0)].length ≤ grow)).bind fun _ =>
    some (x.2.1, x.2.2.1, (x.2.2.2.1 ++ [(Tok.mk 5 x.1 0 0)]))
  a34 := fun x => bif decide (x.2.1 < (x.2.2.2.2.2.length : Int)) then ((gd (0 ≤ x.2.1)).bind fun _ =>
      (gd (x.2.1 < (x.2.2.2.2.2.length : Int))).bind fun _ =>
      (x.2.2.2.2.2[x.2.1.toNat]?).bind fun e1 =>
      bif decide (x.1 < e1) then ((gd (0 ≤ x.2.1)).bind fun _ =>
        (gd (x.2.1 < (x.2.2.2.2.2.length : Int))).bind fun _ =>
        (x.2.2.2.2.2[x.2.1.toNat]?).bind fun e2 =>
        F.a34 (e2, (IntKind.i64.wrap (x.2.1 + 1)), x.2.2.1, x.2.2.2.1, x.2.2.2.2.1, x.2.2.2.2.2)) else
      F.a34 (x.1, (IntKind.i64.wrap (x.2.1 + 1)), x.2.2.1, x.2.2.2.1, x.2.2.2.2.1, x.2.2.2.2.2)) else
    some (x.1, x.2.2.1, x.2.2.2.1)
  a35 := fun x => (F.a34 (0, 0, x.1, x.2.1, x.2.2.1, x.2.2.2)).bind fun s1 =>
    some (s1.1, s1.2.1, s1.2.2)
  a36 := fun x => (F.a31 (x, 5, (⟨⟨[41]⟩⟩ : ByteArray))).bind fun r1 =>
    bif r1 then some (-1) else
    (F.a31 (x, 4, (⟨⟨[105, 110]⟩⟩ : ByteArray))).bind fun r2 =>
    bif r2 then some (-2) else
    (F.a31 (x, 4, (⟨⟨[116, 104, 101, 110]⟩⟩ : ByteArray))).bind fun r3 =>
    bif r3 then some (-4) else
    (F.a31 (x, 4, (⟨⟨[101, 108, 115, 101]⟩⟩ : ByteArray))).bind fun r4 =>
    bif r4 then some (-3) else
    (F.a31 (x, 4, (⟨⟨[111, 102]⟩⟩ : ByteArray))).bind fun r5 =>
    bif r5 then some (-5) else
    (F.a31 (x, 5, (⟨⟨[125]⟩⟩ : ByteArray))).bind fun r6 =>
    bif r6 then some 0 else
    some 1
  a37 := fun x => bif decide ((x.2.2.2.length : Int) = 0) then some ((-9), x.1, x.2.1) else
    (gd (0 ≤ (IntKind.i64.wrap ((x.2.2.2.length : Int) - 1)))).bind fun _ =>
    (gd ((IntKind.i64.wrap ((x.2.2.2.length : Int) - 1)) < (x.2.2.2.length : Int))).bind fun _ =>
    (x.2.2.2[(IntKind.i64.wrap ((x.2.2.2.length : Int) - 1)).toNat]?).bind fun e1 =>
    some (e1, x.1, x.2.1)
  a38 := fun x => (gd (0 ≤ (IntKind.i64.wrap ((x.1.length : Int) - 1)))).bind fun _ =>
    (gd ((IntKind.i64.wrap ((x.1.length : Int) - 1)) ≤ (x.1.length : Int))).bind fun _ =>
    (gd (((x.1.take (IntKind.i64.wrap ((x.1.length : Int) - 1)).toNat).drop 0).length ≤ grow)).bind fun _ =>
    some (x.2.1, x.2.2.1, ((x.1.take (IntKind.i64.wrap ((x.1.length : Int) - 1)).toNat).drop 0))
  a39 := fun x => (F.a31 (x, 5, (⟨⟨[40]⟩⟩ : ByteArray))).bind fun r1 =>
    bif r1 then some [(-1)] else
    (F.a31 (x, 4, (⟨⟨[108, 101, 116]⟩⟩ : ByteArray))).bind fun r2 =>
    bif r2 then some [(-2)] else
    (F.a31 (x, 4, (⟨⟨[105, 102]⟩⟩ : ByteArray))).bind fun r3 =>
    bif r3 then some [(-3), (-4)] else
    (F.a31 (x, 4, (⟨⟨[99, 97, 115, 101]⟩⟩ : ByteArray))).bind fun r4 =>
    bif r4 then some [(-5)] else
    some []
  a40 := fun x => (bif decide (x.1 < 0) then ((F.a37 (x.2.1, x.2.2.1, x.2.2.2.1, x.2.2.2.2.2)).bind fun r1 =>
        bif decide (0 < r1.1) then some (.inl (r1.2.1, r1.2.2, x.2.2.2.2.1, x.2.2.2.2.2)) else
        some (.inr (r1.2.1, r1.2.2, x.2.2.2.2.1, x.2.2.2.2.2))) else
      bif decide (x.2.2.2.2.1.K = 6) then ((F.a37 (x.2.1, x.2.2.1, x.2.2.2.1, x.2.2.2.2.2)).bind fun r2 =>
        bif decide (0 < r2.1) then some (.inl (r2.2.1, r2.2.2, x.2.2.2.2.1, x.2.2.2.2.2)) else
        some (.inr (r2.2.1, r2.2.2, x.2.2.2.2.1, x.2.2.2.2.2))) else
      some (.inr (x.2.1, x.2.2.1, x.2.2.2.2.1, x.2.2.2.2.2))).bind fun s3 =>
    Sum.elim (fun a4 =>
      (F.a38 (a4.2.2.2, a4.1, a4.2.1, x.2.2.2.1)).bind fun r6 =>
      (F.a33 ((⟨⟨[125]⟩⟩ : ByteArray), r6.1, r6.2.1, x.2.2.2.1, r6.2.2)).bind fun r7 =>
      F.a40 (x.1, r7.1, r7.2.1, r7.2.2, a4.2.2.1, r6.2.2)) (fun b5 =>
      some (b5.1, b5.2.1, x.2.2.2.1, b5.2.2.1, b5.2.2.2)) s3
  a41 := fun x => bif decide (x.1 < (x.2.2.2.2.2.1.length : Int)) then ((gd (0 ≤ x.1)).bind fun _ =>
      (gd (x.1 < (x.2.2.2.2.2.1.length : Int))).bind fun _ =>
      (x.2.2.2.2.2.1[x.1.toNat]?).bind fun e1 =>
      (F.a32 (e1, x.2.1, x.2.2.1, x.2.2.2.1, x.2.2.2.2.2.2)).bind fun r2 =>
      F.a41 ((IntKind.i64.wrap (x.1 + 1)), r2.1, r2.2.1, r2.2.2.1, x.2.2.2.2.1, x.2.2.2.2.2.1, r2.2.2.2)) else
    some (x.2.1, x.2.2.1, x.2.2.2.1, x.2.2.2.2.1, x.2.2.2.2.2.2)
  a42 := fun x => (F.a36 x.1).bind fun r1 =>
    (F.a40 (r1, x.2.1, x.2.2.1, x.2.2.2.1, x.1, x.2.2.2.2)).bind fun s2 =>
    (gd (s2.2.2.1.length + [s2.2.2.2.1].length ≤ grow)).bind fun _ =>
    (bif decide (r1 ≤ 0) then ((F.a37 (s2.1, s2.2.1, (s2.2.2.1 ++ [s2.2.2.2.1]), s2.2.2.2.2)).bind fun r3 =>
        bif (!decide (r3.1 = r1)) then some (.inl (r3.2.1, true, s2.2.2.2.2)) else
        (F.a38 (s2.2.2.2.2, r3.2.1, r3.2.2, (s2.2.2.1 ++ [s2.2.2.2.1]))).bind fun r4 =>
        some (.inr (r4.1, r4.2.1, s2.2.2.2.1, r4.2.2))) else
      some (.inr (s2.1, s2.2.1, s2.2.2.2.1, s2.2.2.2.2))).bind fun s5 =>
    Sum.elim (fun a6 =>
      some (a6.1, a6.2.1, (s2.2.2.1 ++ [s2.2.2.2.1]), a6.2.2)) (fun b7 =>
      (F.a39 b7.2.2.1).bind fun r8 =>
      (F.a41 (0, b7.1, b7.2.1, (s2.2.2.1 ++ [s2.2.2.2.1]), b7.2.2.1, r8, b7.2.2.2)).bind fun s9 =>
      (F.a31 (s9.2.2.2.1, 4, (⟨⟨[108, 101, 116]⟩⟩ : ByteArray))).bind fun r10 =>
      bif r10 then some (true, s9.2.1, s9.2.2.1, s9.2.2.2.2) else
      (F.a31 (s9.2.2.2.1, 4, (⟨⟨[119, 104, 101, 114, 101]⟩⟩ : ByteArray))).bind fun r11 =>
      bif r11 then some (true, s9.2.1, s9.2.2.1, s9.2.2.2.2) else
      (F.a31 (s9.2.2.2.1, 4, (⟨⟨[111, 102]⟩⟩ : ByteArray))).bind fun r12 =>
      some (r12, s9.2.1, s9.2.2.1, s9.2.2.2.2)) s5
  a43 := fun x => bif decide (0 < (x.2.2.2.2.length : Int)) then ((F.a37 (x.1, x.2.1, x.2.2.1, x.2.2.2.2)).bind fun r1 =>
      bif decide (x.2.2.2.1.Col < r1.1) then ((F.a38 (x.2.2.2.2, r1.2.1, r1.2.2, x.2.2.1)).bind fun r2 =>
        (F.a33 ((⟨⟨[125]⟩⟩ : ByteArray), r2.1, r2.2.1, x.2.2.1, r2.2.2)).bind fun r3 =>
        F.a43 (r3.1, r3.2.1, r3.2.2, x.2.2.2.1, r2.2.2)) else
      some (r1.2.1, r1.2.2, x.2.2.1, x.2.2.2.1, x.2.2.2.2)) else
    some (x.1, x.2.1, x.2.2.1, x.2.2.2.1, x.2.2.2.2)
  a44 := fun x => (F.a43 (x.2.1, x.2.2.1, x.2.2.2.1, x.1, x.2.2.2.2)).bind fun s1 =>
    bif decide (0 < (s1.2.2.2.2.length : Int)) then ((F.a37 (s1.1, s1.2.1, s1.2.2.1, s1.2.2.2.2)).bind fun r2 =>
      bif decide (r2.1 = s1.2.2.2.1.Col) then ((F.a33 ((⟨⟨[59]⟩⟩ : ByteArray), r2.2.1, r2.2.2, s1.2.2.1, s1.2.2.2.2)).bind fun r3 =>
        some (r3.1, r3.2.1, r3.2.2, s1.2.2.2.2)) else
      some (r2.2.1, r2.2.2, s1.2.2.1, s1.2.2.2.2)) else
    some (s1.1, s1.2.1, s1.2.2.1, s1.2.2.2.2)
  a45 := fun x => (bif x.2.2.1 then ((F.a31 (x.1, 5, (⟨⟨[123]⟩⟩ : ByteArray))).bind fun r1 =>
        bif r1 then ((F.a32 (0, false, x.2.2.2.1, x.2.2.2.2.1, x.2.2.2.2.2)).bind fun r2 =>
          (gd (r2.2.2.1.length + [x.1].length ≤ grow)).bind fun _ =>
          some (.inl (r2.1, r2.2.1, (r2.2.2.1 ++ [x.1]), r2.2.2.2))) else
        (F.a33 ((⟨⟨[123]⟩⟩ : ByteArray), false, x.2.2.2.1, x.2.2.2.2.1, x.2.2.2.2.2)).bind fun r3 =>
        (bif (!decide (x.1.K = 6)) then ((F.a35 (r3.1, r3.2.1, r3.2.2, x.2.2.2.2.2)).bind fun r4 =>
            some (decide (r4.1 < x.1.Col), r4.2.1, r4.2.2, x.1)) else
          some (false, r3.1, r3.2.1, x.1)).bind fun s5 =>
        bif s5.1 then ((F.a32 (s5.2.2.2.Col, s5.2.1, s5.2.2.1, r3.2.2, x.2.2.2.2.2)).bind fun r6 =>
          (F.a42 (s5.2.2.2, r6.1, r6.2.1, r6.2.2.1, r6.2.2.2)).bind fun r7 =>
          some (.inl (r7.1, r7.2.1, r7.2.2.1, r7.2.2.2))) else
        (F.a33 ((⟨⟨[125]⟩⟩ : ByteArray), s5.2.1, s5.2.2.1, r3.2.2, x.2.2.2.2.2)).bind fun r8 =>
        some (.inr (r8.1, r8.2.1, r8.2.2, s5.2.2.2))) else
      some (.inr (x.2.2.1, x.2.2.2.1, x.2.2.2.2.1, x.1))).bind fun s9 =>
    Sum.elim (fun a10 =>
      some (a10.1, a10.2.1, a10.2.2.1, a10.2.2.2)) (fun b11 =>
      bif decide (x.2.1 < b11.2.2.2.Line) then (bif (!decide (b11.2.2.2.K = 6)) then ((F.a44 (b11.2.2.2, b11.1, b11.2.1, b11.2.2.1, x.2.2.2.2.2)).bind fun r12 =>
          (F.a42 (b11.2.2.2, r12.1, r12.2.1, r12.2.2.1, r12.2.2.2)).bind fun r13 =>
          some (r13.1, r13.2.1, r13.2.2.1, r13.2.2.2)) else
        (F.a42 (b11.2.2.2, b11.1, b11.2.1, b11.2.2.1, x.2.2.2.2.2)).bind fun r14 =>
        some (r14.1, r14.2.1, r14.2.2.1, r14.2.2.2)) else
      (F.a42 (b11.2.2.2, b11.1, b11.2.1, b11.2.2.1, x.2.2.2.2.2)).bind fun r15 =>
      some (r15.1, r15.2.1, r15.2.2.1, r15.2.2.2)) s9
  a46 := fun x => bif decide (x.2.2.1 < (x.1.length : Int)) then (bif (!x.2.2.2.2.1) then ((ix x.1 x.2.2.1).bind fun e1 =>
        (F.a45 (e1, x.2.1, x.2.2.2.1, x.2.2.2.2.1, x.2.2.2.2.2.1, x.2.2.2.2.2.2)).bind fun r2 =>
        (ix x.1 x.2.2.1).bind fun e3 =>
        F.a46 (x.1, e3.Line, (IntKind.i64.wrap (x.2.2.1 + 1)), r2.1, r2.2.1, r2.2.2.1, r2.2.2.2)) else
      some (x.2.2.2.1, x.2.2.2.2.1, x.2.2.2.2.2.1, x.2.2.2.2.2.2)) else
    some (x.2.2.2.1, x.2.2.2.2.1, x.2.2.2.2.2.1, x.2.2.2.2.2.2)
  a47 := fun x => (F.a46 (x, 0, 0, true, false, [], [])).bind fun s1 =>
    bif s1.2.1 then some (false, []) else
    bif decide (0 < (s1.2.2.2.length : Int)) then some (false, []) else
    bif decide (900 < (s1.2.2.1.length : Int)) then some (false, []) else
    some (true, s1.2.2.1)
  a48 := fun x => bif x.2.2.bad then some (false, x.2.2) else
    bif decide ((x.2.2.l.length : Int) ≤ x.2.2.at_) then some (false, x.2.2) else
    (ix x.2.2.l x.2.2.at_).bind fun e1 =>
    bif (!decide (e1.K = x.1)) then some (false, x.2.2) else
    (ix x.2.2.l x.2.2.at_).bind fun e2 =>
    bif (!decide (e2.S = x.2.1)) then some (false, x.2.2) else
    some (true, (spec_l4Reader.mk x.2.2.l (IntKind.i64.wrap (x.2.2.at_ + 1)) x.2.2.deep x.2.2.bad))
  a49 := fun x => (F.a48 (5, x.1, x.2)).bind fun r1 =>
    some (r1.1, r1.2)
  a50 := fun x => bif (!x.1) then some (spec_l4Reader.mk x.2.l x.2.at_ x.2.deep true) else
    some x.2
  a51 := fun x => (F.a30 x).bind fun r1 =>
    (F.a47 r1.2).bind fun r2 =>
    (bif (!r1.1) then some (spec_l4Reader.mk r2.2 0 0 true) else
      some (spec_l4Reader.mk r2.2 0 0 (!r2.1))).bind fun s3 =>
    (F.a49 ((⟨⟨[123]⟩⟩ : ByteArray), s3)).bind fun r4 =>
    (F.a50 (r4.1, r4.2)).bind fun r5 =>
    some r5
  a52 := fun x => (F.a48 (4, x.1, x.2)).bind fun r1 =>
    some (r1.1, r1.2)
  a53 := fun x => bif (!x.2.bad) then (bif decide (x.2.at_ < (x.2.l.length : Int)) then ((ix x.2.l x.2.at_).bind fun e1 =>
        some (decide (e1.K = x.1), x.2)) else
      some (false, x.2)) else
    some (false, x.2)
  a54 := fun x => (bif x.bad then some (true, x, (Tok.mk 0 (⟨⟨[]⟩⟩ : ByteArray) 0 0)) else
      some (decide ((x.l.length : Int) ≤ x.at_), x, (Tok.mk 0 (⟨⟨[]⟩⟩ : ByteArray) 0 0))).bind fun s1 =>
    bif s1.1 then some ((Tok.mk 0 (⟨⟨[]⟩⟩ : ByteArray) 0 0), (spec_l4Reader.mk s1.2.1.l s1.2.1.at_ s1.2.1.deep true)) else
    (ix s1.2.1.l s1.2.1.at_).bind fun e2 =>
    some (e2, s1.2.1)
  a55 := fun x => (F.a54 x).bind fun r1 =>
    some (r1.1, (spec_l4Reader.mk r1.2.l (IntKind.i64.wrap (r1.2.at_ + 1)) r1.2.deep r1.2.bad))
  a56 := fun x => (F.a53 (2, x)).bind fun r1 =>
    (F.a50 (r1.1, r1.2)).bind fun r2 =>
    (F.a55 r2).bind fun r3 =>
    some (r3.1.S, r3.2)
  a57 := fun x => bif decide (x = (⟨⟨[73, 110, 116]⟩⟩ : ByteArray)) then ((F.a0 ()).bind fun r1 =>
      some r1) else
    bif decide (x = (⟨⟨[66, 111, 111, 108]⟩⟩ : ByteArray)) then some (Ty.mk 2 (⟨⟨[]⟩⟩ : ByteArray) 0 []) else
    (F.a1 x).bind fun r2 =>
    some r2
  a58 := fun x => some (Ty.mk 4 (⟨⟨[]⟩⟩ : ByteArray) 0 [x.1, x.2])
  a59 := fun x => (F.a60 x).bind fun r1 =>
    (bif (!r1.2.bad) then ((F.a49 ((⟨⟨[45, 62]⟩⟩ : ByteArray), r1.2)).bind fun r2 =>
        some (r2.1, r2.2, (Ty.mk 0 (⟨⟨[]⟩⟩ : ByteArray) 0 []), r1.1)) else
      some (false, r1.2, (Ty.mk 0 (⟨⟨[]⟩⟩ : ByteArray) 0 []), r1.1)).bind fun s3 =>
    bif s3.1 then ((F.a59 s3.2.1).bind fun r4 =>
      (F.a58 (s3.2.2.2, r4.1)).bind fun r5 =>
      some (r5, r4.2)) else
    some (s3.2.2.2, s3.2.1)
  a60 := fun x => (F.a49 ((⟨⟨[40]⟩⟩ : ByteArray), x)).bind fun r1 =>
    bif (!r1.1) then ((F.a56 r1.2).bind fun r2 =>
      (F.a57 r2.1).bind fun r3 =>
      some (r3, r2.2)) else
    (F.a59 r1.2).bind fun r4 =>
    (F.a49 ((⟨⟨[41]⟩⟩ : ByteArray), r4.2)).bind fun r5 =>
    (F.a50 (r5.1, r5.2)).bind fun r6 =>
    some (r4.1, r6)
  a61 := fun x => ((F.a53 (2, x.1)).bind fun r1 =>
      bif r1.1 then some (.inl (r1.2, x.2.1, x.2.2.1, x.2.2.2)) else
      (F.a53 (5, r1.2)).bind fun r2 =>
      bif r2.1 then ((ix r2.2.l r2.2.at_).bind fun e3 =>
        bif decide (e3.S = (⟨⟨[40]⟩⟩ : ByteArray)) then some (.inl (r2.2, x.2.1, x.2.2.1, x.2.2.2)) else
        some (.inr (r2.2, x.2.1, x.2.2.1, x.2.2.2))) else
      some (.inr (r2.2, x.2.1, x.2.2.1, x.2.2.2))).bind fun s4 =>
    Sum.elim (fun a5 =>
      (F.a60 a5.1).bind fun r7 =>
      (gd (a5.2.2.2.length + [r7.1].length ≤ grow)).bind fun _ =>
      F.a61 (r7.2, a5.2.1, a5.2.2.1, (a5.2.2.2 ++ [r7.1]))) (fun b6 =>
      some (b6.1, b6.2.1, b6.2.2.1, b6.2.2.2)) s4
  a62 := fun x => (F.a56 x).bind fun r1 =>
    (F.a61 (r1.2, (Con.mk (⟨⟨[]⟩⟩ : ByteArray) []), r1.1, [])).bind fun s2 =>
    some ((Con.mk s2.2.2.1 s2.2.2.2), s2.1)
  a63 := fun x => (F.a49 ((⟨⟨[124]⟩⟩ : ByteArray), x.1)).bind fun r1 =>
    bif r1.1 then ((F.a62 r1.2).bind fun r2 =>
      (gd (x.2.2.2.length + [r2.1].length ≤ grow)).bind fun _ =>
      F.a63 (r2.2, x.2.1, x.2.2.1, (x.2.2.2 ++ [r2.1]))) else
    some (r1.2, x.2.1, x.2.2.1, x.2.2.2)
  a64 := fun x => (F.a56 x).bind fun r1 =>
    (F.a49 ((⟨⟨[61]⟩⟩ : ByteArray), r1.2)).bind fun r2 =>
    (F.a50 (r2.1, r2.2)).bind fun r3 =>
    (F.a62 r3).bind fun r4 =>
    (F.a63 (r4.2, (Data.mk (⟨⟨[]⟩⟩ : ByteArray) []), r1.1, [r4.1])).bind fun s5 =>
    some ((Data.mk s5.2.2.1 s5.2.2.2), s5.1)
  a65 := fun x => (F.a53 (1, x)).bind fun r1 =>
    bif r1.1 then some (true, r1.2) else
    (F.a53 (5, r1.2)).bind fun r2 =>
    bif r2.1 then ((ix r2.2.l r2.2.at_).bind fun e3 =>
      some (decide (e3.S = (⟨⟨[95]⟩⟩ : ByteArray)), r2.2)) else
    some (false, r2.2)
  a66 := fun x => (F.a65 x).bind fun r1 =>
    (F.a50 (r1.1, r1.2)).bind fun r2 =>
    (F.a55 r2).bind fun r3 =>
    some (r3.1.S, r3.2)
  a67 := fun x => (F.a65 x.1).bind fun r1 =>
    bif r1.1 then ((F.a66 r1.2).bind fun r2 =>
      (gd (x.2.length + [r2.1].length ≤ grow)).bind fun _ =>
      F.a67 (r2.2, (x.2 ++ [r2.1]))) else
    some (r1.2, x.2)
  a68 := fun x => (F.a67 (x, [])).bind fun s1 =>
    some (s1.1, s1.2)
  a69 := fun x => bif x.1 then (bif (!x.2.1.bad) then ((F.a89 x.2.1).bind fun r1 =>
        (gd (x.2.2.length + [r1.1].length ≤ grow)).bind fun _ =>
        (F.a49 ((⟨⟨[59]⟩⟩ : ByteArray), r1.2)).bind fun r2 =>
        F.a69 (r2.1, r2.2, (x.2.2 ++ [r1.1]))) else
      some (x.2.1, x.2.2)) else
    some (x.2.1, x.2.2)
  a70 := fun x => (F.a49 ((⟨⟨[123]⟩⟩ : ByteArray), x)).bind fun r1 =>
    (F.a50 (r1.1, r1.2)).bind fun r2 =>
    (F.a69 (true, r2, [])).bind fun s3 =>
    (F.a49 ((⟨⟨[125]⟩⟩ : ByteArray), s3.1)).bind fun r4 =>
    (F.a50 (r4.1, r4.2)).bind fun r5 =>
    some (r5, s3.2)
  a71 := fun x => ((F.a53 (2, x)).bind fun r1 =>
      bif r1.1 then ((F.a56 r1.2).bind fun r2 =>
        (F.a68 r2.2).bind fun r3 =>
        some (r3.1, (Alt.mk (⟨⟨[]⟩⟩ : ByteArray) [] (Exp.mk 0 (⟨⟨[]⟩⟩ : ByteArray) 0 [] [] [])), (Alt.mk r2.1 r3.2 (Exp.mk 0 (⟨⟨[]⟩⟩ : ByteArray) 0 [] [] [])))) else
      (F.a66 r1.2).bind fun r4 =>
      some (r4.2, (Alt.mk (⟨⟨[]⟩⟩ : ByteArray) [] (Exp.mk 0 (⟨⟨[]⟩⟩ : ByteArray) 0 [] [] [])), (Alt.mk (⟨⟨[]⟩⟩ : ByteArray) [r4.1] (Exp.mk 0 (⟨⟨[]⟩⟩ : ByteArray) 0 [] [] [])))).bind fun s5 =>
    (F.a49 ((⟨⟨[45, 62]⟩⟩ : ByteArray), s5.1)).bind fun r6 =>
    (F.a50 (r6.1, r6.2)).bind fun r7 =>
    (F.a88 r7).bind fun r8 =>
    some ((Alt.mk s5.2.2.Great s5.2.2.Vars (Exp.mk r8.1.K r8.1.S r8.1.N r8.1.L r8.1.Decs r8.1.Alts)), r8.2)
  a72 := fun x => bif x.1 then (bif (!x.2.1.bad) then ((F.a71 x.2.1).bind fun r1 =>
        (gd (x.2.2.length + [r1.1].length ≤ grow)).bind fun _ =>
        (F.a49 ((⟨⟨[59]⟩⟩ : ByteArray), r1.2)).bind fun r2 =>
        F.a72 (r2.1, r2.2, (x.2.2 ++ [r1.1]))) else
      some (x.2.1, x.2.2)) else
    some (x.2.1, x.2.2)
  a73 := fun x => (F.a49 ((⟨⟨[123]⟩⟩ : ByteArray), x)).bind fun r1 =>
    (F.a50 (r1.1, r1.2)).bind fun r2 =>
    (F.a72 (true, r2, [])).bind fun s3 =>
    (F.a49 ((⟨⟨[125]⟩⟩ : ByteArray), s3.1)).bind fun r4 =>
    (F.a50 (r4.1, r4.2)).bind fun r5 =>
    some (r5, s3.2)
  a74 := fun x => bif decide (x.2.2.1 < (x.2.1.size : Int)) then ((bx x.2.1 x.2.2.1).bind fun b1 =>
      F.a74 ((IntKind.i64.wrap ((IntKind.i64.wrap (x.1 * 10)) + (IntKind.i64.wrap (IntKind.u8.wrap (b1 - 48))))), x.2.1, (IntKind.i64.wrap (x.2.2.1 + 1)), x.2.2.2.1, x.2.2.2.2)) else
    some (x.1, x.2.2.2.1, x.2.2.2.2)
  a75 := fun x => (F.a53 (1, x)).bind fun r1 =>
    bif r1.1 then ((F.a55 r1.2).bind fun r2 =>
      (F.a2 r2.1.S).bind fun r3 =>
      some (r3, r2.2)) else
    (F.a53 (2, r1.2)).bind fun r4 =>
    bif r4.1 then ((F.a55 r4.2).bind fun r5 =>
      some ((Exp.mk 2 r5.1.S 0 [] [] []), r5.2)) else
    (F.a53 (3, r4.2)).bind fun r6 =>
    bif r6.1 then ((F.a55 r6.2).bind fun r7 =>
      (F.a74 (0, r7.1.S, 0, r7.2, (Exp.mk 0 (⟨⟨[]⟩⟩ : ByteArray) 0 [] [] []))).bind fun s8 =>
      (F.a3 s8.1).bind fun r9 =>
      some (r9, s8.2.1)) else
    (F.a49 ((⟨⟨[40]⟩⟩ : ByteArray), r6.2)).bind fun r10 =>
    bif r10.1 then ((F.a88 r10.2).bind fun r11 =>
      (F.a49 ((⟨⟨[41]⟩⟩ : ByteArray), r11.2)).bind fun r12 =>
      (F.a50 (r12.1, r12.2)).bind fun r13 =>
      some (r11.1, r13)) else
    some ((Exp.mk 0 (⟨⟨[]⟩⟩ : ByteArray) 0 [] [] []), (spec_l4Reader.mk r10.2.l r10.2.at_ r10.2.deep true))
  a76 := fun x => (F.a53 (1, x)).bind fun r1 =>
    bif r1.1 then some (true, r1.2) else
    (F.a53 (2, r1.2)).bind fun r2 =>
    bif r2.1 then some (true, r2.2) else
    (F.a53 (3, r2.2)).bind fun r3 =>
    bif r3.1 then some (true, r3.2) else
    (F.a53 (5, r3.2)).bind fun r4 =>
    bif r4.1 then ((ix r4.2.l r4.2.at_).bind fun e5 =>
      some (decide (e5.S = (⟨⟨[40]⟩⟩ : ByteArray)), r4.2)) else
    some (false, r4.2)
  a77 := fun x => bif (!x.1.bad) then ((F.a76 x.1).bind fun r1 =>
      bif r1.1 then ((F.a75 r1.2).bind fun r2 =>
        (F.a4 (x.2.2, r2.1)).bind fun r3 =>
        F.a77 (r2.2, x.2.1, r3)) else
      some (r1.2, x.2.1, x.2.2)) else
    some (x.1, x.2.1, x.2.2)
  a78 := fun x => (F.a75 x).bind fun r1 =>
    (F.a77 (r1.2, (Exp.mk 0 (⟨⟨[]⟩⟩ : ByteArray) 0 [] [] []), r1.1)).bind fun s2 =>
    some (s2.2.2, s2.1)
  a79 := fun x => some (Exp.mk 9 x.1 0 [x.2.1, x.2.2] [] [])
  a80 := fun x => (F.a49 ((⟨⟨[42]⟩⟩ : ByteArray), x.1)).bind fun r1 =>
    bif r1.1 then ((F.a78 r1.2).bind fun r2 =>
      (F.a79 ((⟨⟨[42]⟩⟩ : ByteArray), x.2.2, r2.1)).bind fun r3 =>
      F.a80 (r2.2, x.2.1, r3)) else
    some (r1.2, x.2.1, x.2.2)
  a81 := fun x => (F.a78 x).bind fun r1 =>
    (F.a80 (r1.2, (Exp.mk 0 (⟨⟨[]⟩⟩ : ByteArray) 0 [] [] []), r1.1)).bind fun s2 =>
    some (s2.2.2, s2.1)
  a82 := fun x => bif x.1 then (bif (!x.2.1.bad) then ((F.a83 (false, 2, 0, x.2.1, x.2.2.1, x.2.2.2, [(⟨⟨[43]⟩⟩ : ByteArray), (⟨⟨[45]⟩⟩ : ByteArray)])).bind fun s1 =>
        F.a82 (s1.1, s1.2.1, s1.2.2.1, s1.2.2.2)) else
      some (x.2.1, x.2.2.1, x.2.2.2)) else
    some (x.2.1, x.2.2.1, x.2.2.2)
  a83 := fun x => bif decide (x.2.2.1 < x.2.1) then ((gd (0 ≤ x.2.2.1)).bind fun _ =>
      (gd (x.2.2.1 < (x.2.2.2.2.2.2.length : Int))).bind fun _ =>
      (x.2.2.2.2.2.2[x.2.2.1.toNat]?).bind fun e1 =>
      (bif (!x.1) then ((F.a49 (e1, x.2.2.2.1)).bind fun r2 =>
          some (r2.1, r2.2, x.2.2.2.2.1, x.2.2.2.2.2.1, x.2.2.2.2.2.2)) else
        some (false, x.2.2.2.1, x.2.2.2.2.1, x.2.2.2.2.2.1, x.2.2.2.2.2.2)).bind fun s3 =>
      bif s3.1 then ((F.a81 s3.2.1).bind fun r4 =>
        (F.a79 (e1, s3.2.2.2.1, r4.1)).bind fun r5 =>
        F.a83 (true, x.2.1, (IntKind.i64.wrap (x.2.2.1 + 1)), r4.2, s3.2.2.1, r5, s3.2.2.2.2)) else
      F.a83 (x.1, x.2.1, (IntKind.i64.wrap (x.2.2.1 + 1)), s3.2.1, s3.2.2.1, s3.2.2.2.1, s3.2.2.2.2)) else
    some (x.1, x.2.2.2.1, x.2.2.2.2.1, x.2.2.2.2.2.1)
  a84 := fun x => (F.a81 x).bind fun r1 =>
    (F.a82 (true, r1.2, (Exp.mk 0 (⟨⟨[]⟩⟩ : ByteArray) 0 [] [] []), r1.1)).bind fun s2 =>
    some (s2.2.2, s2.1)
  a85 := fun x => bif decide (x.2.1 < x.1) then ((gd (0 ≤ x.2.1)).bind fun _ =>
      (gd (x.2.1 < (x.2.2.2.2.2.length : Int))).bind fun _ =>
      (x.2.2.2.2.2[x.2.1.toNat]?).bind fun e1 =>
      (F.a49 (e1, x.2.2.1)).bind fun r2 =>
      bif r2.1 then ((F.a84 r2.2).bind fun r3 =>
        (F.a79 (e1, x.2.2.2.2.1, r3.1)).bind fun r4 =>
        some (.inl (r3.2, r4))) else
      F.a85 (x.1, (IntKind.i64.wrap (x.2.1 + 1)), r2.2, x.2.2.2.1, x.2.2.2.2.1, x.2.2.2.2.2)) else
    some (.inr (x.2.2.1, x.2.2.2.1, x.2.2.2.2.1))
  a86 := fun x => (F.a84 x).bind fun r1 =>
    (F.a85 (2, 0, r1.2, (Exp.mk 0 (⟨⟨[]⟩⟩ : ByteArray) 0 [] [] []), r1.1, [(⟨⟨[61, 61]⟩⟩ : ByteArray), (⟨⟨[60]⟩⟩ : ByteArray)])).bind fun s2 =>
    Sum.elim (fun a3 =>
      some (a3.2, a3.1)) (fun b4 =>
      some (b4.2.2, b4.1)) s2
  a87 := fun x => (F.a49 ((⟨⟨[92]⟩⟩ : ByteArray), x)).bind fun r1 =>
    bif r1.1 then ((F.a66 r1.2).bind fun r2 =>
      (F.a49 ((⟨⟨[45, 62]⟩⟩ : ByteArray), r2.2)).bind fun r3 =>
      (F.a50 (r3.1, r3.2)).bind fun r4 =>
      (F.a88 r4).bind fun r5 =>
      some ((Exp.mk 5 r2.1 0 [r5.1] [] []), r5.2)) else
    (F.a52 ((⟨⟨[108, 101, 116]⟩⟩ : ByteArray), r1.2)).bind fun r6 =>
    bif r6.1 then ((F.a70 r6.2).bind fun r7 =>
      (F.a52 ((⟨⟨[105, 110]⟩⟩ : ByteArray), r7.1)).bind fun r8 =>
      (F.a50 (r8.1, r8.2)).bind fun r9 =>
      (F.a88 r9).bind fun r10 =>
      some ((Exp.mk 6 (⟨⟨[]⟩⟩ : ByteArray) 0 [r10.1] r7.2 []), r10.2)) else
    (F.a52 ((⟨⟨[99, 97, 115, 101]⟩⟩ : ByteArray), r6.2)).bind fun r11 =>
    bif r11.1 then ((F.a88 r11.2).bind fun r12 =>
      (F.a52 ((⟨⟨[111, 102]⟩⟩ : ByteArray), r12.2)).bind fun r13 =>
      (F.a50 (r13.1, r13.2)).bind fun r14 =>
      (F.a73 r14).bind fun r15 =>
      some ((Exp.mk 7 (⟨⟨[]⟩⟩ : ByteArray) 0 [r12.1] [] r15.2), r15.1)) else
    (F.a52 ((⟨⟨[105, 102]⟩⟩ : ByteArray), r11.2)).bind fun r16 =>
    bif r16.1 then ((F.a88 r16.2).bind fun r17 =>
      (F.a52 ((⟨⟨[116, 104, 101, 110]⟩⟩ : ByteArray), r17.2)).bind fun r18 =>
      (F.a50 (r18.1, r18.2)).bind fun r19 =>
      (F.a88 r19).bind fun r20 =>
      (F.a52 ((⟨⟨[101, 108, 115, 101]⟩⟩ : ByteArray), r20.2)).bind fun r21 =>
      (F.a50 (r21.1, r21.2)).bind fun r22 =>
      (F.a88 r22).bind fun r23 =>
      some ((Exp.mk 8 (⟨⟨[]⟩⟩ : ByteArray) 0 [r17.1, r20.1, r23.1] [] []), r23.2)) else
    (F.a86 r16.2).bind fun r24 =>
    some (r24.1, r24.2)
  a88 := fun x => (bif decide (60 < (IntKind.i64.wrap (x.deep + 1))) then some ((spec_l4Reader.mk x.l x.at_ (IntKind.i64.wrap (x.deep + 1)) true), (Exp.mk 0 (⟨⟨[]⟩⟩ : ByteArray) 0 [] [] [])) else
      some ((spec_l4Reader.mk x.l x.at_ (IntKind.i64.wrap (x.deep + 1)) x.bad), (Exp.mk 0 (⟨⟨[]⟩⟩ : ByteArray) 0 [] [] []))).bind fun s1 =>
    (F.a87 s1.1).bind fun r2 =>
    some (r2.1, (spec_l4Reader.mk r2.2.l r2.2.at_ (IntKind.i64.wrap (r2.2.deep - 1)) r2.2.bad))
  a89 := fun x => (F.a53 (1, x)).bind fun r1 =>
    (F.a50 (r1.1, r1.2)).bind fun r2 =>
    (F.a55 r2).bind fun r3 =>
    (F.a68 r3.2).bind fun r4 =>
    (F.a49 ((⟨⟨[61]⟩⟩ : ByteArray), r4.1)).bind fun r5 =>
    (F.a50 (r5.1, r5.2)).bind fun r6 =>
    (F.a88 r6).bind fun r7 =>
    (F.a52 ((⟨⟨[119, 104, 101, 114, 101]⟩⟩ : ByteArray), r7.2)).bind fun r8 =>
    bif r8.1 then ((F.a70 r8.2).bind fun r9 =>
      some ((Dec.mk r3.1.S r4.2 (Exp.mk r7.1.K r7.1.S r7.1.N r7.1.L r7.1.Decs r7.1.Alts) r9.2), r9.1)) else
    some ((Dec.mk r3.1.S r4.2 (Exp.mk r7.1.K r7.1.S r7.1.N r7.1.L r7.1.Decs r7.1.Alts) []), r8.2)
  a90 := fun x => (F.a49 ((⟨⟨[125]⟩⟩ : ByteArray), x)).bind fun r1 =>
    (F.a50 (r1.1, r1.2)).bind fun r2 =>
    bif (!r2.bad) then (bif decide (r2.at_ = (IntKind.i64.wrap ((r2.l.length : Int) - 1))) then ((ix r2.l r2.at_).bind fun e3 =>
        some (decide (e3.K = 6), r2)) else
      some (false, r2)) else
    some (false, r2)
  a91 := fun x => (F.a16 ([(⟨⟨[73, 110, 116]⟩⟩ : ByteArray), (⟨⟨[66, 111, 111, 108]⟩⟩ : ByteArray), (⟨⟨[84, 114, 117, 101]⟩⟩ : ByteArray), (⟨⟨[70, 97, 108, 115, 101]⟩⟩ : ByteArray)], x)).bind fun r1 =>
    some r1
  a92 := fun x => bif decide (x.2.2.1 < (x.2.2.2.Datas.length : Int)) then ((F.a93 (x.1, x.2.1, x.2.2.1, 0, x.2.2.2)).bind fun s1 =>
      F.a92 (x.1, s1.1, (IntKind.i64.wrap (x.2.2.1 + 1)), s1.2)) else
    some x.2.1
  a93 := fun x => (ix x.2.2.2.2.Datas x.2.2.1).bind fun e1 =>
    bif decide (x.2.2.2.1 < (e1.Cons.length : Int)) then ((ix x.2.2.2.2.Datas x.2.2.1).bind fun e2 =>
      (ix e2.Cons x.2.2.2.1).bind fun e3 =>
      bif decide (e3.Name = x.1) then F.a93 (x.1, (IntKind.i64.wrap (x.2.1 + 1)), x.2.2.1, (IntKind.i64.wrap (x.2.2.2.1 + 1)), x.2.2.2.2) else
      F.a93 (x.1, x.2.1, x.2.2.1, (IntKind.i64.wrap (x.2.2.2.1 + 1)), x.2.2.2.2)) else
    some (x.2.1, x.2.2.2.2)
  a94 := fun x => (F.a92 (x.2, 0, 0, x.1)).bind fun s1 =>
    some s1
  a95 := fun x => (bif decide (6 < x.2) then some (.inl 100) else
      bif (!decide (x.1.N = 0)) then some (.inl 100) else
      bif (!decide (x.1.K = 3)) then (bif (!decide (x.1.S = (⟨⟨[]⟩⟩ : ByteArray))) then some (.inl 100) else
        bif (!decide (x.1.K = 4)) then (bif decide (0 < (x.1.L.length : Int)) then some (.inl 100) else
          some (.inr x.1)) else
        some (.inr x.1)) else
      bif (!decide (x.1.K = 4)) then (bif decide (0 < (x.1.L.length : Int)) then some (.inl 100) else
        some (.inr x.1)) else
      some (.inr x.1)).bind fun s1 =>
    Sum.elim (fun a2 =>
      some a2) (fun b3 =>
      (bif decide (b3.K = 1) then some (true, b3) else
        some (decide (b3.K = 2), b3)).bind fun s4 =>
      bif s4.1 then some 1 else
      bif decide (b3.K = 3) then ((F.a21 s4.2.S).bind fun r5 =>
        bif r5 then (bif (!decide (s4.2.S = (⟨⟨[73, 110, 116]⟩⟩ : ByteArray))) then (bif (!decide (s4.2.S = (⟨⟨[66, 111, 111, 108]⟩⟩ : ByteArray))) then some 1 else
            some 100) else
          some 100) else
        some 100) else
      bif decide (b3.K = 4) then (bif decide ((s4.2.L.length : Int) = 2) then ((ix s4.2.L 0).bind fun e6 =>
          (ix s4.2.L 1).bind fun e7 =>
          (F.a95 (e6, (IntKind.i64.wrap (x.2 + 1)))).bind fun r8 =>
          (F.a95 (e7, (IntKind.i64.wrap (x.2 + 1)))).bind fun r9 =>
          some (IntKind.i64.wrap ((IntKind.i64.wrap (1 + r8)) + r9))) else
        some 100) else
      some 100) s1
  a96 := fun x => bif decide (x.2.1 < x.1) then ((ix x.2.2.1.Datas x.2.1).bind fun e1 =>
      bif decide (e1.Name = x.2.2.2.Name) then some (.inl false) else
      F.a96 (x.1, (IntKind.i64.wrap (x.2.1 + 1)), x.2.2.1, x.2.2.2)) else
    some (.inr (x.2.2.1, x.2.2.2))
  a97 := fun x => bif decide (x.1 < (x.2.2.Cons.length : Int)) then ((ix x.2.2.Cons x.1).bind fun e1 =>
      (F.a21 e1.Name).bind fun r2 =>
      bif (!r2) then some (.inl false) else
      (F.a91 e1.Name).bind fun r3 =>
      bif r3 then some (.inl false) else
      bif decide (4 < (e1.Args.length : Int)) then some (.inl false) else
      (F.a94 (x.2.1, e1.Name)).bind fun r4 =>
      bif (!decide (r4 = 1)) then some (.inl false) else
      (F.a98 (0, x.2.1, x.2.2, e1)).bind fun s5 =>
      Sum.elim (fun a6 =>
        some (.inl a6)) (fun b7 =>
        F.a97 ((IntKind.i64.wrap (x.1 + 1)), b7.1, b7.2)) s5) else
    some (.inr x.2.2)
  a98 := fun x => bif decide (x.1 < (x.2.2.2.Args.length : Int)) then ((ix x.2.2.2.Args x.1).bind fun e1 =>
      (F.a95 (e1, 1)).bind fun r2 =>
      bif decide (10 < r2) then some (.inl false) else
      F.a98 ((IntKind.i64.wrap (x.1 + 1)), x.2.1, x.2.2.1, x.2.2.2)) else
    some (.inr (x.2.1, x.2.2.1))
  a99 := fun x => (ix x.1.Datas x.2).bind fun e1 =>
    (F.a96 (x.2, 0, x.1, e1)).bind fun s2 =>
    Sum.elim (fun a3 =>
      some a3) (fun b4 =>
      (F.a97 (0, b4.1, b4.2)).bind fun s5 =>
      Sum.elim (fun a6 =>
        some a6) (fun b7 =>
        (F.a21 b7.Name).bind fun r8 =>
        bif r8 then ((F.a91 b7.Name).bind fun r9 =>
          bif (!r9) then ((F.a8 ((b7.Cons.length : Int), 1, 5)).bind fun r10 =>
            some r10) else
          some false) else
        some false) s5) s2
  a100 := fun x => bif decide (x.2 < (x.1.length : Int)) then ((ix x.1 x.2).bind fun e1 =>
      bif decide (e1 = (⟨⟨[95]⟩⟩ : ByteArray)) then F.a100 (x.1, (IntKind.i64.wrap (x.2 + 1))) else
      (ix x.1 x.2).bind fun e2 =>
      (F.a20 e2).bind fun r3 =>
      bif (!r3) then some (.inl false) else
      (ix x.1 x.2).bind fun e4 =>
      (gd (0 ≤ x.2)).bind fun _ =>
      (gd (x.2 ≤ (x.1.length : Int))).bind fun _ =>
      (F.a16 (((x.1.take x.2.toNat).drop 0), e4)).bind fun r5 =>
      bif r5 then some (.inl false) else
      F.a100 (x.1, (IntKind.i64.wrap (x.2 + 1)))) else
    some (.inr ())
  a101 := fun x => (F.a100 (x, 0)).bind fun s1 =>
    Sum.elim (fun a2 =>
      some a2) (fun b3 =>
      some (decide ((x.length : Int) ≤ 4))) s1
  a102 := fun x => (bif decide (x = 1) then some true else
      bif decide (x = 2) then some true else
      some (decide (x = 3))).bind fun s1 =>
    bif s1 then some 0 else
    (bif decide (x = 5) then some true else
      bif decide (x = 6) then some true else
      some (decide (x = 7))).bind fun s2 =>
    bif s2 then some 1 else
    (bif decide (x = 4) then some true else
      some (decide (x = 9))).bind fun s3 =>
    bif s3 then some 2 else
    bif decide (x = 8) then some 3 else
    some (-1)
  a103 := fun x => (F.a16 ([(⟨⟨[43]⟩⟩ : ByteArray), (⟨⟨[45]⟩⟩ : ByteArray), (⟨⟨[42]⟩⟩ : ByteArray), (⟨⟨[61, 61]⟩⟩ : ByteArray), (⟨⟨[60]⟩⟩ : ByteArray)], x)).bind fun r1 =>
    some r1
  a104 := fun x => ((F.a102 x.K).bind fun r1 =>
      bif (!decide (r1 = (x.L.length : Int))) then some (.inl false) else
      bif (!decide (x.K = 6)) then (bif decide (0 < (x.Decs.length : Int)) then some (.inl false) else
        bif (!decide (x.K = 7)) then (bif decide (0 < (x.Alts.length : Int)) then some (.inl false) else
          bif (!decide (x.K = 3)) then (bif (!decide (x.N = 0)) then some (.inl false) else
            some (.inr x)) else
          some (.inr x)) else
        bif (!decide (x.K = 3)) then (bif (!decide (x.N = 0)) then some (.inl false) else
          some (.inr x)) else
        some (.inr x)) else
      bif (!decide (x.K = 7)) then (bif decide (0 < (x.Alts.length : Int)) then some (.inl false) else
        bif (!decide (x.K = 3)) then (bif (!decide (x.N = 0)) then some (.inl false) else
          some (.inr x)) else
        some (.inr x)) else
      bif (!decide (x.K = 3)) then (bif (!decide (x.N = 0)) then some (.inl false) else
        some (.inr x)) else
      some (.inr x)).bind fun s2 =>
    Sum.elim (fun a3 =>
      some a3) (fun b4 =>
      bif decide (b4.K = 1) then ((F.a20 b4.S).bind fun r5 =>
        some r5) else
      bif decide (b4.K = 2) then ((F.a21 b4.S).bind fun r6 =>
        some r6) else
      bif decide (b4.K = 3) then ((F.a8 (b4.N, 0, 999999)).bind fun r7 =>
        bif r7 then some (decide (b4.S = (⟨⟨[]⟩⟩ : ByteArray))) else
        some false) else
      bif decide (b4.K = 5) then ((F.a20 b4.S).bind fun r8 =>
        bif r8 then some true else
        some (decide (b4.S = (⟨⟨[95]⟩⟩ : ByteArray)))) else
      bif decide (b4.K = 9) then ((F.a103 b4.S).bind fun r9 =>
        some r9) else
      bif decide (b4.K = 7) then ((F.a8 ((b4.Alts.length : Int), 1, 6)).bind fun r10 =>
        bif r10 then some (decide (b4.S = (⟨⟨[]⟩⟩ : ByteArray))) else
        some false) else
      some (decide (b4.S = (⟨⟨[]⟩⟩ : ByteArray)))) s2
  a105 := fun x => (F.a101 x.Vars).bind fun r1 =>
    bif r1 then ((F.a21 x.Great).bind fun r2 =>
      bif r2 then some true else
      bif decide (x.Great = (⟨⟨[]⟩⟩ : ByteArray)) then some (decide ((x.Vars.length : Int) = 1)) else
      some false) else
    some false
  a106 := fun x => bif decide (x.2.2.1 < (x.2.2.2.L.length : Int)) then (bif decide (x.2.1 ≤ 200) then ((ix x.2.2.2.L x.2.2.1).bind fun e1 =>
        (F.a108 (e1, (IntKind.i64.wrap (x.1 + 1)))).bind fun r2 =>
        F.a106 (x.1, (IntKind.i64.wrap (x.2.1 + r2)), (IntKind.i64.wrap (x.2.2.1 + 1)), x.2.2.2)) else
      some (x.2.1, x.2.2.2)) else
    some (x.2.1, x.2.2.2)
  a107 := fun x => bif decide (x.2.2.1 < (x.2.2.2.Alts.length : Int)) then (bif decide (x.2.1 ≤ 200) then ((ix x.2.2.2.Alts x.2.2.1).bind fun e1 =>
        (F.a105 e1).bind fun r2 =>
        bif (!r2) then some (.inl 1000) else
        (ix x.2.2.2.Alts x.2.2.1).bind fun e3 =>
        (F.a108 (e3.E, (IntKind.i64.wrap (x.1 + 1)))).bind fun r4 =>
        F.a107 (x.1, (IntKind.i64.wrap (x.2.1 + r4)), (IntKind.i64.wrap (x.2.2.1 + 1)), x.2.2.2)) else
      some (.inr (x.2.1, x.2.2.2))) else
    some (.inr (x.2.1, x.2.2.2))
  a108 := fun x => bif decide (12 < x.2) then some 1000 else
    (F.a104 x.1).bind fun r1 =>
    bif (!r1) then some 1000 else
    (F.a106 (x.2, 1, 0, x.1)).bind fun s2 =>
    (F.a107 (x.2, s2.1, 0, s2.2)).bind fun s3 =>
    Sum.elim (fun a4 =>
      some a4) (fun b5 =>
      (bif decide (b5.2.K = 6) then some (decide (b5.1 ≤ 200), b5.2) else
        some (false, b5.2)).bind fun s6 =>
      bif s6.1 then ((F.a111 (s6.2.Decs, 6, (IntKind.i64.wrap (x.2 + 1)))).bind fun r7 =>
        some (IntKind.i64.wrap (b5.1 + r7))) else
      some b5.1) s3
  a109 := fun x => bif decide (x.2.2.2 < (x.1.length : Int)) then (bif decide (x.2.2.1 ≤ 200) then ((F.a110 (x.1, x.2.2.2, 0)).bind fun s1 =>
        Sum.elim (fun a2 =>
          some (.inl a2)) (fun b3 =>
          (ix x.1 x.2.2.2).bind fun e4 =>
          (F.a20 e4.Name).bind fun r5 =>
          bif (!r5) then some (.inl 1000) else
          (ix x.1 x.2.2.2).bind fun e6 =>
          (F.a101 e6.Pars).bind fun r7 =>
          bif (!r7) then some (.inl 1000) else
          (ix x.1 x.2.2.2).bind fun e8 =>
          (F.a108 (e8.E, (IntKind.i64.wrap (x.2.1 + 1)))).bind fun r9 =>
          ((ix x.1 x.2.2.2).bind fun e10 =>
            bif decide (0 < (e10.Where.length : Int)) then some (decide ((IntKind.i64.wrap (x.2.2.1 + r9)) ≤ 200)) else
            some false).bind fun s11 =>
          bif s11 then ((ix x.1 x.2.2.2).bind fun e12 =>
            (F.a111 (e12.Where, 6, (IntKind.i64.wrap (x.2.1 + 1)))).bind fun r13 =>
            F.a109 (x.1, x.2.1, (IntKind.i64.wrap ((IntKind.i64.wrap (x.2.2.1 + r9)) + r13)), (IntKind.i64.wrap (x.2.2.2 + 1)))) else
          F.a109 (x.1, x.2.1, (IntKind.i64.wrap (x.2.2.1 + r9)), (IntKind.i64.wrap (x.2.2.2 + 1)))) s1) else
      some (.inr x.2.2.1)) else
    some (.inr x.2.2.1)
  a110 := fun x => bif decide (x.2.2 < x.2.1) then ((ix x.1 x.2.2).bind fun e1 =>
      (ix x.1 x.2.1).bind fun e2 =>
      bif decide (e1.Name = e2.Name) then some (.inl 1000) else
      F.a110 (x.1, x.2.1, (IntKind.i64.wrap (x.2.2 + 1)))) else
    some (.inr ())
  a111 := fun x => (F.a8 ((x.1.length : Int), 1, x.2.1)).bind fun r1 =>
    bif (!r1) then some 1000 else
    (F.a109 (x.1, x.2.2, 0, 0)).bind fun s2 =>
    Sum.elim (fun a3 =>
      some a3) (fun b4 =>
      some b4) s2
  a112 := fun x => bif decide (x.1 < (x.2.Datas.length : Int)) then ((F.a99 (x.2, x.1)).bind fun r1 =>
      bif (!r1) then some (.inl false) else
      F.a112 ((IntKind.i64.wrap (x.1 + 1)), x.2)) else
    some (.inr x.2)
  a113 := fun x => (F.a112 (0, x)).bind fun s1 =>
    Sum.elim (fun a2 =>
      some a2) (fun b3 =>
      bif decide ((b3.Datas.length : Int) ≤ 5) then ((F.a111 (b3.Decs, 12, 0)).bind fun r4 =>
        some (decide (r4 ≤ 200))) else
      some false) s1
  a114 := fun x => bif x.1 then (bif (!x.2.2.1.bad) then ((F.a52 ((⟨⟨[100, 97, 116, 97]⟩⟩ : ByteArray), x.2.2.1)).bind fun r1 =>
        bif r1.1 then ((F.a64 r1.2).bind fun r2 =>
          (gd (x.2.2.2.1.length + [r2.1].length ≤ grow)).bind fun _ =>
          (F.a49 ((⟨⟨[59]⟩⟩ : ByteArray), r2.2)).bind fun r4 =>
          F.a114 (r4.1, x.2.1, r4.2, (x.2.2.2.1 ++ [r2.1]), x.2.2.2.2)) else
        (F.a89 r1.2).bind fun r3 =>
        (gd (x.2.2.2.2.length + [r3.1].length ≤ grow)).bind fun _ =>
        (F.a49 ((⟨⟨[59]⟩⟩ : ByteArray), r3.2)).bind fun r5 =>
        F.a114 (r5.1, x.2.1, r5.2, x.2.2.2.1, (x.2.2.2.2 ++ [r3.1]))) else
      some (x.2.1, x.2.2.1, x.2.2.2.1, x.2.2.2.2)) else
    some (x.2.1, x.2.2.1, x.2.2.2.1, x.2.2.2.2)
  a115 := fun x => (F.a51 x).bind fun r1 =>
    (F.a114 ((!r1.bad), (Prog.mk [] []), r1, [], [])).bind fun s2 =>
    (F.a90 s2.2.1).bind fun r3 =>
    bif (!r3.1) then some ((Prog.mk [] []), false) else
    (F.a113 (Prog.mk s2.2.2.1 s2.2.2.2)).bind fun r4 =>
    bif (!r4) then some ((Prog.mk [] []), false) else
    some ((Prog.mk s2.2.2.1 s2.2.2.2), true)
noncomputable def stepR (F : Fs) : Fs := { step F with
  a38 := fun x => X.meet ((gd (0 ≤ (IntKind.i64.wrap ((x.1.length : Int) - 1)))).bind fun _ =>
      (gd ((IntKind.i64.wrap ((x.1.length : Int) - 1)) ≤ (x.1.length : Int))).bind fun _ =>
      (gd (((x.1.take (IntKind.i64.wrap ((x.1.length : Int) - 1)).toNat).drop 0).length ≤ grow)).bind fun _ =>
      some (x.2.1, x.2.2.1, ((x.1.take (IntKind.i64.wrap ((x.1.length : Int) - 1)).toNat).drop 0))) ((gd (0 ≤ (IntKind.i64.wrap ((x.1.length : Int) - 1)))).bind fun _ =>
      (gd ((IntKind.i64.wrap ((x.1.length : Int) - 1)) ≤ (x.1.length : Int))).bind fun _ =>
      (gd (((x.1.take (IntKind.i64.wrap ((x.1.length : Int) - 1)).toNat).drop 0).length ≤ grow)).bind fun _ =>
      some (x.2.1, x.2.2.1, ((x.1.take (IntKind.i64.wrap ((x.1.length : Int) - 1)).toNat).drop 0)))
  a87 := fun x => (F.a49 ((⟨⟨[92]⟩⟩ : ByteArray), x)).bind fun r1 =>
    bif r1.1 then ((F.a66 r1.2).bind fun r2 =>
      (F.a49 ((⟨⟨[45, 62]⟩⟩ : ByteArray), r2.2)).bind fun r3 =>
      (F.a50 (r3.1, r3.2)).bind fun r4 =>
      (F.a88 r4).bind fun r5 =>
      some ((Exp.mk 5 r2.1 0 [r5.1] [] []), r5.2)) else
    (F.a52 ((⟨⟨[108, 101, 116]⟩⟩ : ByteArray), r1.2)).bind fun r6 =>
    bif r6.1 then ((F.a70 r6.2).bind fun r7 =>
      (F.a52 ((⟨⟨[105, 110]⟩⟩ : ByteArray), r7.1)).bind fun r8 =>
      (F.a50 (r8.1, r8.2)).bind fun r9 =>
      (F.a88 r9).bind fun r10 =>
      some ((Exp.mk 6 (⟨⟨[]⟩⟩ : ByteArray) 0 [r10.1] r7.2 []), r10.2)) else
    (F.a52 ((⟨⟨[99, 97, 115, 101]⟩⟩ : ByteArray), r6.2)).bind fun r11 =>
    bif r11.1 then ((F.a88 r11.2).bind fun r12 =>
      (F.a52 ((⟨⟨[111, 102]⟩⟩ : ByteArray), r12.2)).bind fun r13 =>
      (F.a50 (r13.1, r13.2)).bind fun r14 =>
      X.meet ((F.a73 r14).bind fun r15 =>
        some ((Exp.mk 7 (⟨⟨[]⟩⟩ : ByteArray) 0 [r12.1] [] r15.2), r15.1)) ((F.a73 r14).bind fun r15 =>
        some ((Exp.mk 7 (⟨⟨[]⟩⟩ : ByteArray) 0 [r12.1] [] r15.2), r15.1))) else
    (F.a52 ((⟨⟨[105, 102]⟩⟩ : ByteArray), r11.2)).bind fun r16 =>
    bif r16.1 then ((F.a88 r16.2).bind fun r17 =>
      (F.a52 ((⟨⟨[116, 104, 101, 110]⟩⟩ : ByteArray), r17.2)).bind fun r18 =>
      (F.a50 (r18.1, r18.2)).bind fun r19 =>
      (F.a88 r19).bind fun r20 =>
      (F.a52 ((⟨⟨[101, 108, 115, 101]⟩⟩ : ByteArray), r20.2)).bind fun r21 =>
      (F.a50 (r21.1, r21.2)).bind fun r22 =>
      (F.a88 r22).bind fun r23 =>
      some ((Exp.mk 8 (⟨⟨[]⟩⟩ : ByteArray) 0 [r17.1, r20.1, r23.1] [] []), r23.2)) else
    (F.a86 r16.2).bind fun r24 =>
    some (r24.1, r24.2) }
theorem stepR_eq (F : Fs) : stepR F = step F := by
  simp only [stepR, meet_self]
  rfl
def none0 : Fs := ⟨fun _ => none, fun _ => none, fun _ => none, fun _ => none, fun _ => none, fun _ => none, fun _ => none, fun _ => none, fun _ => none, fun _ => none, fun _ => none, fun _ => none, fun _ => none, fun _ => none, fun _ => none, fun _ => none, fun _ => none, fun _ => none, fun _ => none, fun _ => none, fun _ => none, fun _ => none, fun _ => none, fun _ => none, fun _ => none, fun _ => none, fun _ => none, fun _ => none, fun _ => none, fun _ => none, fun _ => none, fun _ => none, fun _ => none, fun _ => none, fun _ => none, fun _ => none, fun _ => none, fun _ => none, fun _ => none, fun _ => none, fun _ => none, fun _ => none, fun _ => none, fun _ => none, fun _ => none, fun _ => none, fun _ => none, fun _ => none, fun _ => none, fun _ => none, fun _ => none, fun _ => none, fun _ => none, fun _ => none, fun _ => none, fun _ => none, fun _ => none, fun _ => none, fun _ => none, fun _ => none, fun _ => none, fun _ => none, fun _ => none, fun _ => none, fun _ => none, fun _ => none, fun _ => none, fun _ => none, fun _ => none, fun _ => none, fun _ => none, fun _ => none, fun _ => none, fun _ => none, fun _ => none, fun _ => none, fun _ => none, fun _ => none, fun _ => none, fun _ => none, fun _ => none, fun _ => none, fun _ => none, fun _ => none, fun _ => none, fun _ => none, fun _ => none, fun _ => none, fun _ => none, fun _ => none, fun _ => none, fun _ => none, fun _ => none, fun _ => none, fun _ => none, fun _ => none, fun _ => none, fun _ => none, fun _ => none, fun _ => none, fun _ => none, fun _ => none, fun _ => none, fun _ => none, fun _ => none, fun _ => none, fun _ => none, fun _ => none, fun _ => none, fun _ => none, fun _ => none, fun _ => none, fun _ => none, fun _ => none, fun _ => none, fun _ => none⟩
def run : Nat → Fs
  | 0 => none0
  | n + 1 => step (run n)
def mk (c : (i : Q S) → i.In → Option i.Out) : Fs := ⟨c (.fn s_spec_l9Int), c (.fn s_spec_l9Data), c (.fn s_spec_l3Var), c (.fn s_spec_l3Num), c (.fn s_spec_l3App), c (.lp s_spec_l1Skip L_spec_l1Skip_L0), c (.lp s_spec_l1Skip L_spec_l1Skip_L1), c (.fn s_spec_l1Skip), c (.fn s_spec_l1In), c (.fn s_spec_l1Digit), c (.lp s_spec_l1NumOk L_spec_l1NumOk_L0), c (.fn s_spec_l1NumOk), c (.fn s_spec_l1Small), c (.fn s_spec_l1Large), c (.fn s_spec_l1Letter), c (.lp s_spec_l1Has L_spec_l1Has_L0), c (.fn s_spec_l1Has), c (.fn s_spec_l1IsWord), c (.lp s_spec_l1Letters L_spec_l1Letters_L0), c (.fn s_spec_l1Letters), c (.fn s_spec_NameOk), c (.fn s_spec_GreatOk), c (.fn s_spec_l1Kind), c (.lp s_spec_l1Next L_spec_l1Next_L0), c (.lp s_spec_l1Next L_spec_l1Next_L1), c (.fn s_spec_l1Next), c (.lp s_spec_l1Place L_spec_l1Place_L0), c (.fn s_spec_l1Place), c (.lp s_spec_Lex L_spec_Lex_L0), c (.lp s_spec_Lex L_spec_Lex_L1), c (.fn s_spec_Lex), c (.fn s_spec_l2Is), c (.fn s_spec_l2Push), c (.fn s_spec_l2Put), c (.lp s_spec_l2Margin L_spec_l2Margin_L0), c (.fn s_spec_l2Margin), c (.fn s_spec_l2Needs), c (.fn s_spec_l2Top), c (.fn s_spec_l2Pop), c (.fn s_spec_l2Opens), c (.lp s_spec_l2Out L_spec_l2Out_L0), c (.lp s_spec_l2Out L_spec_l2Out_L1), c (.fn s_spec_l2Out), c (.lp s_spec_l2Line L_spec_l2Line_L0), c (.fn s_spec_l2Line), c (.fn s_spec_l2Step), c (.lp s_spec_Lay L_spec_Lay_L0), c (.fn s_spec_Lay), c (.fn s_spec_l4Is), c (.fn s_spec_l4Mark), c (.fn s_spec_l4Must), c (.fn s_spec_l4Open), c (.fn s_spec_l4Word), c (.fn s_spec_l4Kind), c (.fn s_spec_l4Tok), c (.fn s_spec_l4Next), c (.fn s_spec_l4Great), c (.fn s_spec_l4Named), c (.fn s_spec_l9Fun), c (.fn s_spec_l4Type), c (.fn s_spec_l4Atype), c (.lp s_spec_l4Con L_spec_l4Con_L0), c (.fn s_spec_l4Con), c (.lp s_spec_l4Data L_spec_l4Data_L0), c (.fn s_spec_l4Data), c (.fn s_spec_l4IsPar), c (.fn s_spec_l4Par), c (.lp s_spec_l4Pars L_spec_l4Pars_L0), c (.fn s_spec_l4Pars), c (.lp s_spec_l4Block L_spec_l4Block_L0), c (.fn s_spec_l4Block), c (.fn s_spec_l4Alt), c (.lp s_spec_l4Alts L_spec_l4Alts_L0), c (.fn s_spec_l4Alts), c (.lp s_spec_l4Atom L_spec_l4Atom_L0), c (.fn s_spec_l4Atom), c (.fn s_spec_l4IsAtom), c (.lp s_spec_l4App L_spec_l4App_L0), c (.fn s_spec_l4App), c (.fn s_spec_l4Bin), c (.lp s_spec_l4Mul L_spec_l4Mul_L0), c (.fn s_spec_l4Mul), c (.lp s_spec_l4Sum L_spec_l4Sum_L0), c (.lp s_spec_l4Sum L_spec_l4Sum_L1), c (.fn s_spec_l4Sum), c (.lp s_spec_l4Cmp L_spec_l4Cmp_L0), c (.fn s_spec_l4Cmp), c (.fn s_spec_l4Whole), c (.fn s_spec_l4Exp), c (.fn s_spec_l4Dec), c (.fn s_spec_l4Close), c (.fn s_spec_l3Own), c (.lp s_spec_l3Times L_spec_l3Times_L0), c (.lp s_spec_l3Times L_spec_l3Times_L1), c (.fn s_spec_l3Times), c (.fn s_spec_l9Written), c (.lp s_spec_l3Data L_spec_l3Data_L0), c (.lp s_spec_l3Data L_spec_l3Data_L1), c (.lp s_spec_l3Data L_spec_l3Data_L2), c (.fn s_spec_l3Data), c (.lp s_spec_l3Vars L_spec_l3Vars_L0), c (.fn s_spec_l3Vars), c (.fn s_spec_l3Parts), c (.fn s_spec_l3Op), c (.fn s_spec_l3Here), c (.fn s_spec_l3Alt), c (.lp s_spec_l3Count L_spec_l3Count_L0), c (.lp s_spec_l3Count L_spec_l3Count_L1), c (.fn s_spec_l3Count), c (.lp s_spec_l3Decs L_spec_l3Decs_L0), c (.lp s_spec_l3Decs L_spec_l3Decs_L1), c (.fn s_spec_l3Decs), c (.lp s_spec_ProgOk L_spec_ProgOk_L0), c (.fn s_spec_ProgOk), c (.lp s_spec_ParseProg L_spec_ParseProg_L0), c (.fn s_spec_ParseProg)⟩
theorem st_eq (c : (i : Q S) → i.In → Option i.Out) : stepR (mk c) = mk fun i x => interp c (tree P tab i x) := by kernel_rfl
theorem run_eq : ∀ n, run n = mk (runN P tab n)
  | 0 => rfl
  | n + 1 => by
    show step (run n) = _
    rw [run_eq n, ← stepR_eq]
    exact st_eq _
theorem spec_ParseProg_eq (n : Nat) (x : ByteArray) : (run n).a115 x = runN P tab n (.fn s_spec_ParseProg) x := by rw [run_eq n]; rfl
def spec_ParseProg (n : Nat) (x : ByteArray) : Option (Prog × Bool) := (run n).a115 x
theorem spec_ParseProg_run {x : ByteArray} {o : Prog × Bool} (n : Nat) (h : spec_ParseProg n x = some o) : M.spec_ParseProg x = some o := RT_of P tab (n := n) ((spec_ParseProg_eq n x).symm.trans h)
end Ev
end W
