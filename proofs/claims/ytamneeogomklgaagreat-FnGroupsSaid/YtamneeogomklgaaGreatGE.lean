import Derived.Test.YtamneeogomklgaaGreatGTab
set_option linter.unusedSimpArgs false
set_option linter.unusedVariables false
set_option linter.unusedSectionVars false
namespace W
open Go HL HL.X
set_option linter.unusedVariables false
set_option maxRecDepth 1000000
set_option maxHeartbeats 4000000
theorem meet_self {O : Type} (a : Option O) : X.meet a a = a := by simp [X.meet]
namespace M
theorem e_laws_big (x : List Int) : M.laws_big x = (some (decide (1048576 < (x.length : Int)))) :=
  (RT_eq P tab (.fn s_laws_big) x).trans (by kernel_rfl)
theorem e_spec_l1New_L0 (x : (List Int) × Int × Int) : M.spec_l1New_L0 x = (bif decide (x.2.2 < (x.1.length : Int)) then (bif decide (x.2.2 < 4000) then ((ix x.1 x.2.2).bind fun e1 =>
        spec_l1New_L0 (x.1, (andI .i64 (IntKind.i64.wrap ((IntKind.i64.wrap ((IntKind.i64.wrap (x.2.1 * 137)) + (IntKind.i64.wrap e1))) + 11)) 1073741823), (IntKind.i64.wrap (x.2.2 + 1)))) else
      some x.2.1) else
    some x.2.1) :=
  (RT_eq P tab (.lp s_spec_l1New L_spec_l1New_L0) x).trans (by kernel_rfl)
theorem e_spec_l1New (x : List Int) : M.spec_l1New x = ((spec_l1New_L0 (x, (IntKind.i64.wrap (945945 + (x.length : Int))), 0)).bind fun s1 =>
    some (spec_l1Cur.mk x 0 s1)) :=
  (RT_eq P tab (.fn s_spec_l1New) x).trans (by kernel_rfl)
theorem e_spec_l1Byte (x : spec_l1Cur) : M.spec_l1Byte x = ((gd (0 ≤ (33 : Int))).bind fun _ =>
    (gd (0 ≤ (47 : Int))).bind fun _ =>
    bif decide (x.i < (x.b.length : Int)) then ((ix x.b x.i).bind fun e1 =>
      some ((andI .i64 (IntKind.i64.wrap ((andI .i64 (xorI .i64 (shrI .i64 (IntKind.i64.wrap ((IntKind.i64.wrap (x.h * 6364136223846793005)) + 1442695040888963407)) 33) (shrI .i64 (IntKind.i64.wrap ((IntKind.i64.wrap (x.h * 6364136223846793005)) + 1442695040888963407)) 47)) 255) + (IntKind.i64.wrap e1))) 255), (spec_l1Cur.mk x.b (IntKind.i64.wrap (x.i + 1)) (IntKind.i64.wrap ((IntKind.i64.wrap (x.h * 6364136223846793005)) + 1442695040888963407))))) else
    some ((andI .i64 (xorI .i64 (shrI .i64 (IntKind.i64.wrap ((IntKind.i64.wrap (x.h * 6364136223846793005)) + 1442695040888963407)) 33) (shrI .i64 (IntKind.i64.wrap ((IntKind.i64.wrap (x.h * 6364136223846793005)) + 1442695040888963407)) 47)) 255), (spec_l1Cur.mk x.b x.i (IntKind.i64.wrap ((IntKind.i64.wrap (x.h * 6364136223846793005)) + 1442695040888963407))))) :=
  (RT_eq P tab (.fn s_spec_l1Byte) x).trans (by kernel_rfl)
theorem e_spec_l1Below (x : Int × spec_l1Cur) : M.spec_l1Below x = (bif decide (x.1 ≤ 0) then some (0, x.2) else
    bif decide (x.1 ≤ 256) then ((spec_l1Byte x.2).bind fun r1 =>
      (gd (x.1 ≠ 0)).bind fun _ =>
      some ((r1.1.tmod x.1), r1.2)) else
    (spec_l1Byte x.2).bind fun r2 =>
    (spec_l1Byte r2.2).bind fun r3 =>
    (spec_l1Byte r3.2).bind fun r4 =>
    (gd (x.1 ≠ 0)).bind fun _ =>
    some (((IntKind.i64.wrap ((IntKind.i64.wrap ((IntKind.i64.wrap (r2.1 * 65536)) + (IntKind.i64.wrap (r3.1 * 256)))) + r4.1)).tmod x.1), r4.2)) :=
  (RT_eq P tab (.fn s_spec_l1Below) x).trans (by kernel_rfl)
theorem e_spec_l1Once (x : Int × spec_l1Cur) : M.spec_l1Once x = ((spec_l1Below (x.1, x.2)).bind fun r1 =>
    some (decide (r1.1 = 0), r1.2)) :=
  (RT_eq P tab (.fn s_spec_l1Once) x).trans (by kernel_rfl)
theorem e_spec_l9Int (x : Unit) : M.spec_l9Int x = (some (Ty.mk 1 (⟨⟨[]⟩⟩ : ByteArray) 0 [])) :=
  (RT_eq P tab (.fn s_spec_l9Int) x).trans (by kernel_rfl)
theorem e_spec_l9Data (x : ByteArray) : M.spec_l9Data x = (some (Ty.mk 3 x 0 [])) :=
  (RT_eq P tab (.fn s_spec_l9Data) x).trans (by kernel_rfl)
theorem e_spec_l3Datas (x : spec_l1Cur) : M.spec_l3Datas x = (((spec_l1Once (2, x)).bind fun r1 =>
      bif r1.1 then ((spec_l9Int ()).bind fun r2 =>
        some (r1.2, [(Data.mk (⟨⟨[84]⟩⟩ : ByteArray) [(Con.mk (⟨⟨[65]⟩⟩ : ByteArray) []), (Con.mk (⟨⟨[66]⟩⟩ : ByteArray) [r2])])])) else
      some (r1.2, [])).bind fun s3 =>
    (spec_l1Once (3, s3.1)).bind fun r4 =>
    bif r4.1 then ((spec_l9Int ()).bind fun r5 =>
      (spec_l9Data (⟨⟨[76]⟩⟩ : ByteArray)).bind fun r6 =>
      (gd (s3.2.length + [(Data.mk (⟨⟨[76]⟩⟩ : ByteArray) [(Con.mk (⟨⟨[67]⟩⟩ : ByteArray) [r5, r6]), (Con.mk (⟨⟨[78]⟩⟩ : ByteArray) [])])].length ≤ grow)).bind fun _ =>
      some (r4.2, (s3.2 ++ [(Data.mk (⟨⟨[76]⟩⟩ : ByteArray) [(Con.mk (⟨⟨[67]⟩⟩ : ByteArray) [r5, r6]), (Con.mk (⟨⟨[78]⟩⟩ : ByteArray) [])])]))) else
    some (r4.2, s3.2)) :=
  (RT_eq P tab (.fn s_spec_l3Datas) x).trans (by kernel_rfl)
theorem e_spec_l1Str (x : (List ByteArray) × spec_l1Cur) : M.spec_l1Str x = ((spec_l1Below ((x.1.length : Int), x.2)).bind fun r1 =>
    (ix x.1 r1.1).bind fun e2 =>
    some (e2, r1.2)) :=
  (RT_eq P tab (.fn s_spec_l1Str) x).trans (by kernel_rfl)
theorem e_spec_l3Name (x : spec_l1Cur) : M.spec_l3Name x = ((spec_l1Str ([(⟨⟨[120]⟩⟩ : ByteArray), (⟨⟨[121]⟩⟩ : ByteArray), (⟨⟨[102]⟩⟩ : ByteArray), (⟨⟨[103]⟩⟩ : ByteArray), (⟨⟨[104]⟩⟩ : ByteArray)], x)).bind fun r1 =>
    some (r1.1, r1.2)) :=
  (RT_eq P tab (.fn s_spec_l3Name) x).trans (by kernel_rfl)
theorem e_spec_l1HasV_L0 (x : ByteArray × Int × (List ByteArray)) : M.spec_l1HasV_L0 x = (bif decide (x.2.1 < (x.2.2.length : Int)) then ((gd (0 ≤ x.2.1)).bind fun _ =>
      (gd (x.2.1 < (x.2.2.length : Int))).bind fun _ =>
      (x.2.2[x.2.1.toNat]?).bind fun e1 =>
      bif decide (e1 = x.1) then some (.inl true) else
      spec_l1HasV_L0 (x.1, (IntKind.i64.wrap (x.2.1 + 1)), x.2.2)) else
    some (.inr ())) :=
  (RT_eq P tab (.lp s_spec_l1HasV L_spec_l1HasV_L0) x).trans (by kernel_rfl)
theorem e_spec_l1HasV (x : ByteArray × (List ByteArray)) : M.spec_l1HasV x = ((spec_l1HasV_L0 (x.1, 0, x.2)).bind fun s1 =>
    Sum.elim (fun a2 =>
      some a2) (fun b3 =>
      some false) s1) :=
  (RT_eq P tab (.fn s_spec_l1HasV) x).trans (by kernel_rfl)
theorem e_spec_l3Pars_L0 (x : Int × spec_l1Cur × (List ByteArray)) : M.spec_l3Pars_L0 x = (bif decide (0 < x.1) then ((spec_l3Name x.2.1).bind fun r1 =>
      ((spec_l1HasV (r1.1, x.2.2)).bind fun r2 =>
        bif r2 then some ((⟨⟨[95]⟩⟩ : ByteArray), r1.2, x.2.2) else
        some (r1.1, r1.2, x.2.2)).bind fun s3 =>
      (gd (s3.2.2.length + [s3.1].length ≤ grow)).bind fun _ =>
      spec_l3Pars_L0 ((IntKind.i64.wrap (x.1 - 1)), s3.2.1, (s3.2.2 ++ [s3.1]))) else
    some (x.2.1, x.2.2)) :=
  (RT_eq P tab (.lp s_spec_l3Pars L_spec_l3Pars_L0) x).trans (by kernel_rfl)
theorem e_spec_l3Pars (x : Int × spec_l1Cur) : M.spec_l3Pars x = ((spec_l1Below ((IntKind.i64.wrap (x.1 + 1)), x.2)).bind fun r1 =>
    (spec_l3Pars_L0 (r1.1, r1.2, [])).bind fun s2 =>
    some (s2.2, s2.1)) :=
  (RT_eq P tab (.fn s_spec_l3Pars) x).trans (by kernel_rfl)
theorem e_spec_l1Int (x : (List Int) × spec_l1Cur) : M.spec_l1Int x = ((spec_l1Below ((x.1.length : Int), x.2)).bind fun r1 =>
    (ix x.1 r1.1).bind fun e2 =>
    some (e2, r1.2)) :=
  (RT_eq P tab (.fn s_spec_l1Int) x).trans (by kernel_rfl)
theorem e_spec_l3Var (x : ByteArray) : M.spec_l3Var x = (some (Exp.mk 1 x 0 [] [] [])) :=
  (RT_eq P tab (.fn s_spec_l3Var) x).trans (by kernel_rfl)
theorem e_spec_l3Num (x : Int) : M.spec_l3Num x = (some (Exp.mk 3 (⟨⟨[]⟩⟩ : ByteArray) x [] [] [])) :=
  (RT_eq P tab (.fn s_spec_l3Num) x).trans (by kernel_rfl)
theorem e_spec_l3DrawAlts_L0 (x : Int × Int × spec_l1Cur × (List Alt)) : M.spec_l3DrawAlts_L0 x = (bif decide (0 < x.2.1) then ((spec_l1Below (4, x.2.2.1)).bind fun r1 =>
      bif decide (r1.1 = 0) then ((spec_l1Str ([(⟨⟨[120]⟩⟩ : ByteArray), (⟨⟨[95]⟩⟩ : ByteArray), (⟨⟨[122]⟩⟩ : ByteArray)], r1.2)).bind fun r2 =>
        (spec_l3Draw (x.1, r2.2)).bind fun r3 =>
        (gd (x.2.2.2.length + [(Alt.mk (⟨⟨[]⟩⟩ : ByteArray) [r2.1] (Exp.mk r3.1.K r3.1.S r3.1.N r3.1.L r3.1.Decs r3.1.Alts))].length ≤ grow)).bind fun _ =>
        spec_l3DrawAlts_L0 (x.1, (IntKind.i64.wrap (x.2.1 - 1)), r3.2, (x.2.2.2 ++ [(Alt.mk (⟨⟨[]⟩⟩ : ByteArray) [r2.1] (Exp.mk r3.1.K r3.1.S r3.1.N r3.1.L r3.1.Decs r3.1.Alts))]))) else
      bif decide (r1.1 = 1) then ((spec_l1Str ([(⟨⟨[84, 114, 117, 101]⟩⟩ : ByteArray), (⟨⟨[70, 97, 108, 115, 101]⟩⟩ : ByteArray), (⟨⟨[65]⟩⟩ : ByteArray)], r1.2)).bind fun r4 =>
        (spec_l3Draw (x.1, r4.2)).bind fun r5 =>
        (gd (x.2.2.2.length + [(Alt.mk r4.1 [] (Exp.mk r5.1.K r5.1.S r5.1.N r5.1.L r5.1.Decs r5.1.Alts))].length ≤ grow)).bind fun _ =>
        spec_l3DrawAlts_L0 (x.1, (IntKind.i64.wrap (x.2.1 - 1)), r5.2, (x.2.2.2 ++ [(Alt.mk r4.1 [] (Exp.mk r5.1.K r5.1.S r5.1.N r5.1.L r5.1.Decs r5.1.Alts))]))) else
      (spec_l1Str ([(⟨⟨[66]⟩⟩ : ByteArray), (⟨⟨[67]⟩⟩ : ByteArray)], r1.2)).bind fun r6 =>
      (spec_l3Pars (2, r6.2)).bind fun r7 =>
      (spec_l3Draw (x.1, r7.2)).bind fun r8 =>
      (gd (x.2.2.2.length + [(Alt.mk r6.1 r7.1 (Exp.mk r8.1.K r8.1.S r8.1.N r8.1.L r8.1.Decs r8.1.Alts))].length ≤ grow)).bind fun _ =>
      spec_l3DrawAlts_L0 (x.1, (IntKind.i64.wrap (x.2.1 - 1)), r8.2, (x.2.2.2 ++ [(Alt.mk r6.1 r7.1 (Exp.mk r8.1.K r8.1.S r8.1.N r8.1.L r8.1.Decs r8.1.Alts))]))) else
    some (x.2.2.1, x.2.2.2)) :=
  (RT_eq P tab (.lp s_spec_l3DrawAlts L_spec_l3DrawAlts_L0) x).trans (by kernel_rfl)
theorem e_spec_l3DrawAlts (x : Int × spec_l1Cur) : M.spec_l3DrawAlts x = ((spec_l1Below (2, x.2)).bind fun r1 =>
    (spec_l3DrawAlts_L0 (x.1, (IntKind.i64.wrap (1 + r1.1)), r1.2, [])).bind fun s2 =>
    some (s2.1, s2.2)) :=
  (RT_eq P tab (.fn s_spec_l3DrawAlts) x).trans (by kernel_rfl)
theorem e_spec_l3App (x : Exp × Exp) : M.spec_l3App x = (some (Exp.mk 4 (⟨⟨[]⟩⟩ : ByteArray) 0 [x.1, x.2] [] [])) :=
  (RT_eq P tab (.fn s_spec_l3App) x).trans (by kernel_rfl)
theorem f_spec_l3Draw (x : Int × spec_l1Cur) : M.spec_l3Draw x = ((spec_l1Int ([1, 1, 3, 2, 4, 4, 5, 6, 7, 8, 9, 9], x.2)).bind fun r1 =>
    (bif decide (x.1 ≤ 0) then (bif decide (3 < r1.1) then some (1, r1.2, (Exp.mk 0 (⟨⟨[]⟩⟩ : ByteArray) 0 [] [] [])) else
        some (r1.1, r1.2, (Exp.mk 0 (⟨⟨[]⟩⟩ : ByteArray) 0 [] [] []))) else
      some (r1.1, r1.2, (Exp.mk 0 (⟨⟨[]⟩⟩ : ByteArray) 0 [] [] []))).bind fun s2 =>
    bif decide (s2.1 = 1) then ((spec_l3Name s2.2.1).bind fun r3 =>
      (spec_l3Var r3.1).bind fun r4 =>
      some (r4, r3.2)) else
    bif decide (s2.1 = 2) then ((spec_l1Str ([(⟨⟨[84, 114, 117, 101]⟩⟩ : ByteArray), (⟨⟨[70, 97, 108, 115, 101]⟩⟩ : ByteArray), (⟨⟨[65]⟩⟩ : ByteArray), (⟨⟨[66]⟩⟩ : ByteArray), (⟨⟨[67]⟩⟩ : ByteArray)], s2.2.1)).bind fun r5 =>
      some ((Exp.mk s2.1 r5.1 0 [] [] []), r5.2)) else
    bif decide (s2.1 = 3) then ((spec_l1Below (50, s2.2.1)).bind fun r6 =>
      (spec_l3Num r6.1).bind fun r7 =>
      some (r7, r6.2)) else
    bif decide (s2.1 = 5) then ((spec_l1Str ([(⟨⟨[120]⟩⟩ : ByteArray), (⟨⟨[121]⟩⟩ : ByteArray), (⟨⟨[95]⟩⟩ : ByteArray)], s2.2.1)).bind fun r8 =>
      (spec_l3Draw ((IntKind.i64.wrap (x.1 - 1)), r8.2)).bind fun r9 =>
      some ((Exp.mk s2.1 r8.1 0 [r9.1] [] []), r9.2)) else
    bif decide (s2.1 = 6) then ((spec_l1Below (2, s2.2.1)).bind fun r10 =>
      (gd (0 ≤ (IntKind.i64.wrap (1 + r10.1)))).bind fun _ =>
      (gd ((IntKind.i64.wrap (1 + r10.1)) ≤ (([(⟨⟨[120]⟩⟩ : ByteArray), (⟨⟨[121]⟩⟩ : ByteArray)] : List ByteArray).length : Int))).bind fun _ =>
      (spec_l3DrawDecs ((IntKind.i64.wrap (x.1 - 1)), (([(⟨⟨[120]⟩⟩ : ByteArray), (⟨⟨[121]⟩⟩ : ByteArray)] : List ByteArray).take (IntKind.i64.wrap (1 + r10.1)).toNat), r10.2)).bind fun r11 =>
      (spec_l3Draw ((IntKind.i64.wrap (x.1 - 1)), r11.1)).bind fun r12 =>
      some ((Exp.mk s2.1 (⟨⟨[]⟩⟩ : ByteArray) 0 [r12.1] r11.2 []), r12.2)) else
    bif decide (s2.1 = 7) then ((spec_l3Draw ((IntKind.i64.wrap (x.1 - 1)), s2.2.1)).bind fun r13 =>
      X.meet ((spec_l3DrawAlts ((IntKind.i64.wrap (x.1 - 1)), r13.2)).bind fun r14 =>
        some ((Exp.mk s2.1 (⟨⟨[]⟩⟩ : ByteArray) 0 [r13.1] [] r14.2), r14.1)) ((spec_l3DrawAlts ((IntKind.i64.wrap (x.1 - 1)), r13.2)).bind fun r14 =>
        some ((Exp.mk s2.1 (⟨⟨[]⟩⟩ : ByteArray) 0 [r13.1] [] r14.2), r14.1))) else
    bif decide (s2.1 = 8) then ((spec_l3Draw ((IntKind.i64.wrap (x.1 - 1)), s2.2.1)).bind fun r15 =>
      (spec_l3Draw ((IntKind.i64.wrap (x.1 - 1)), r15.2)).bind fun r16 =>
      (spec_l3Draw ((IntKind.i64.wrap (x.1 - 1)), r16.2)).bind fun r17 =>
      some ((Exp.mk s2.1 (⟨⟨[]⟩⟩ : ByteArray) 0 [r15.1, r16.1, r17.1] [] []), r17.2)) else
    bif decide (s2.1 = 9) then ((spec_l3Draw ((IntKind.i64.wrap (x.1 - 1)), s2.2.1)).bind fun r18 =>
      (spec_l1Str ([(⟨⟨[43]⟩⟩ : ByteArray), (⟨⟨[45]⟩⟩ : ByteArray), (⟨⟨[42]⟩⟩ : ByteArray), (⟨⟨[61, 61]⟩⟩ : ByteArray), (⟨⟨[60]⟩⟩ : ByteArray)], r18.2)).bind fun r19 =>
      (spec_l3Draw ((IntKind.i64.wrap (x.1 - 1)), r19.2)).bind fun r20 =>
      some ((Exp.mk s2.1 r19.1 0 [r18.1, r20.1] [] []), r20.2)) else
    (spec_l3Draw ((IntKind.i64.wrap (x.1 - 1)), s2.2.1)).bind fun r21 =>
    (spec_l3Draw ((IntKind.i64.wrap (x.1 - 1)), r21.2)).bind fun r22 =>
    (spec_l3App (r21.1, r22.1)).bind fun r23 =>
    some (r23, r22.2)) :=
  (RT_eq P tab (.fn s_spec_l3Draw) x).trans (by kernel_rfl)
theorem e_spec_l3Draw (x : Int × spec_l1Cur) : M.spec_l3Draw x = ((spec_l1Int ([1, 1, 3, 2, 4, 4, 5, 6, 7, 8, 9, 9], x.2)).bind fun r1 =>
    (bif decide (x.1 ≤ 0) then (bif decide (3 < r1.1) then some (1, r1.2, (Exp.mk 0 (⟨⟨[]⟩⟩ : ByteArray) 0 [] [] [])) else
        some (r1.1, r1.2, (Exp.mk 0 (⟨⟨[]⟩⟩ : ByteArray) 0 [] [] []))) else
      some (r1.1, r1.2, (Exp.mk 0 (⟨⟨[]⟩⟩ : ByteArray) 0 [] [] []))).bind fun s2 =>
    bif decide (s2.1 = 1) then ((spec_l3Name s2.2.1).bind fun r3 =>
      (spec_l3Var r3.1).bind fun r4 =>
      some (r4, r3.2)) else
    bif decide (s2.1 = 2) then ((spec_l1Str ([(⟨⟨[84, 114, 117, 101]⟩⟩ : ByteArray), (⟨⟨[70, 97, 108, 115, 101]⟩⟩ : ByteArray), (⟨⟨[65]⟩⟩ : ByteArray), (⟨⟨[66]⟩⟩ : ByteArray), (⟨⟨[67]⟩⟩ : ByteArray)], s2.2.1)).bind fun r5 =>
      some ((Exp.mk s2.1 r5.1 0 [] [] []), r5.2)) else
    bif decide (s2.1 = 3) then ((spec_l1Below (50, s2.2.1)).bind fun r6 =>
      (spec_l3Num r6.1).bind fun r7 =>
      some (r7, r6.2)) else
    bif decide (s2.1 = 5) then ((spec_l1Str ([(⟨⟨[120]⟩⟩ : ByteArray), (⟨⟨[121]⟩⟩ : ByteArray), (⟨⟨[95]⟩⟩ : ByteArray)], s2.2.1)).bind fun r8 =>
      (spec_l3Draw ((IntKind.i64.wrap (x.1 - 1)), r8.2)).bind fun r9 =>
      some ((Exp.mk s2.1 r8.1 0 [r9.1] [] []), r9.2)) else
    bif decide (s2.1 = 6) then ((spec_l1Below (2, s2.2.1)).bind fun r10 =>
      (gd (0 ≤ (IntKind.i64.wrap (1 + r10.1)))).bind fun _ =>
      (gd ((IntKind.i64.wrap (1 + r10.1)) ≤ (([(⟨⟨[120]⟩⟩ : ByteArray), (⟨⟨[121]⟩⟩ : ByteArray)] : List ByteArray).length : Int))).bind fun _ =>
      (spec_l3DrawDecs ((IntKind.i64.wrap (x.1 - 1)), (([(⟨⟨[120]⟩⟩ : ByteArray), (⟨⟨[121]⟩⟩ : ByteArray)] : List ByteArray).take (IntKind.i64.wrap (1 + r10.1)).toNat), r10.2)).bind fun r11 =>
      (spec_l3Draw ((IntKind.i64.wrap (x.1 - 1)), r11.1)).bind fun r12 =>
      some ((Exp.mk s2.1 (⟨⟨[]⟩⟩ : ByteArray) 0 [r12.1] r11.2 []), r12.2)) else
    bif decide (s2.1 = 7) then ((spec_l3Draw ((IntKind.i64.wrap (x.1 - 1)), s2.2.1)).bind fun r13 =>
      (spec_l3DrawAlts ((IntKind.i64.wrap (x.1 - 1)), r13.2)).bind fun r14 =>
      some ((Exp.mk s2.1 (⟨⟨[]⟩⟩ : ByteArray) 0 [r13.1] [] r14.2), r14.1)) else
    bif decide (s2.1 = 8) then ((spec_l3Draw ((IntKind.i64.wrap (x.1 - 1)), s2.2.1)).bind fun r15 =>
      (spec_l3Draw ((IntKind.i64.wrap (x.1 - 1)), r15.2)).bind fun r16 =>
      (spec_l3Draw ((IntKind.i64.wrap (x.1 - 1)), r16.2)).bind fun r17 =>
      some ((Exp.mk s2.1 (⟨⟨[]⟩⟩ : ByteArray) 0 [r15.1, r16.1, r17.1] [] []), r17.2)) else
    bif decide (s2.1 = 9) then ((spec_l3Draw ((IntKind.i64.wrap (x.1 - 1)), s2.2.1)).bind fun r18 =>
      (spec_l1Str ([(⟨⟨[43]⟩⟩ : ByteArray), (⟨⟨[45]⟩⟩ : ByteArray), (⟨⟨[42]⟩⟩ : ByteArray), (⟨⟨[61, 61]⟩⟩ : ByteArray), (⟨⟨[60]⟩⟩ : ByteArray)], r18.2)).bind fun r19 =>
      (spec_l3Draw ((IntKind.i64.wrap (x.1 - 1)), r19.2)).bind fun r20 =>
      some ((Exp.mk s2.1 r19.1 0 [r18.1, r20.1] [] []), r20.2)) else
    (spec_l3Draw ((IntKind.i64.wrap (x.1 - 1)), s2.2.1)).bind fun r21 =>
    (spec_l3Draw ((IntKind.i64.wrap (x.1 - 1)), r21.2)).bind fun r22 =>
    (spec_l3App (r21.1, r22.1)).bind fun r23 =>
    some (r23, r22.2)) := by
  have h := f_spec_l3Draw x
  simp only [meet_self] at h
  exact h
theorem e_spec_l3DrawDecs_L0 (x : Int × (List ByteArray) × Int × spec_l1Cur × (List Dec)) : M.spec_l3DrawDecs_L0 x = (bif decide (x.2.2.1 < (x.2.1.length : Int)) then (((ix x.2.1 x.2.2.1).bind fun e1 =>
        X.meet ((spec_l3Pars (2, x.2.2.2.1)).bind fun r2 =>
          X.meet ((spec_l3Draw (x.1, r2.2)).bind fun r3 =>
            some (r3.2, x.2.2.2.2, (Dec.mk e1 r2.1 (Exp.mk r3.1.K r3.1.S r3.1.N r3.1.L r3.1.Decs r3.1.Alts) []))) ((spec_l3Draw (x.1, r2.2)).bind fun r3 =>
            some (r3.2, x.2.2.2.2, (Dec.mk e1 r2.1 (Exp.mk r3.1.K r3.1.S r3.1.N r3.1.L r3.1.Decs r3.1.Alts) [])))) ((spec_l3Pars (2, x.2.2.2.1)).bind fun r2 =>
          (spec_l3Draw (x.1, r2.2)).bind fun r3 =>
          some (r3.2, x.2.2.2.2, (Dec.mk e1 r2.1 (Exp.mk r3.1.K r3.1.S r3.1.N r3.1.L r3.1.Decs r3.1.Alts) [])))).bind fun s4 =>
      ((bif decide (1 < x.1) then ((spec_l1Once (5, s4.1)).bind fun r5 =>
            some (r5.1, r5.2, s4.2.1, s4.2.2)) else
          some (false, s4.1, s4.2.1, s4.2.2)).bind fun s6 =>
        bif s6.1 then ((spec_l3Name s6.2.1).bind fun r7 =>
          (spec_l3DrawDecs ((IntKind.i64.wrap (x.1 - 1)), [r7.1], r7.2)).bind fun r8 =>
          some (r8.1, s6.2.2.1, (Dec.mk s6.2.2.2.Name s6.2.2.2.Pars (Exp.mk s6.2.2.2.E.K s6.2.2.2.E.S s6.2.2.2.E.N s6.2.2.2.E.L s6.2.2.2.E.Decs s6.2.2.2.E.Alts) r8.2))) else
        some (s6.2.1, s6.2.2.1, s6.2.2.2)).bind fun s9 =>
      (gd (s9.2.1.length + [s9.2.2].length ≤ grow)).bind fun _ =>
      spec_l3DrawDecs_L0 (x.1, x.2.1, (IntKind.i64.wrap (x.2.2.1 + 1)), s9.1, (s9.2.1 ++ [s9.2.2]))) else
    some (x.2.2.2.1, x.2.2.2.2)) :=
  (RT_eq P tab (.lp s_spec_l3DrawDecs L_spec_l3DrawDecs_L0) x).trans (by kernel_rfl)
theorem e_spec_l3DrawDecs (x : Int × (List ByteArray) × spec_l1Cur) : M.spec_l3DrawDecs x = ((spec_l3DrawDecs_L0 (x.1, x.2.1, 0, x.2.2, [])).bind fun s1 =>
    some (s1.1, s1.2)) :=
  (RT_eq P tab (.fn s_spec_l3DrawDecs) x).trans (by kernel_rfl)
theorem e_spec_l3Prog (x : spec_l1Cur) : M.spec_l3Prog x = ((spec_l3Datas x).bind fun r1 =>
    (spec_l1Below (3, r1.1)).bind fun r2 =>
    (gd (0 ≤ (IntKind.i64.wrap (1 + r2.1)))).bind fun _ =>
    (gd ((IntKind.i64.wrap (1 + r2.1)) ≤ (([(⟨⟨[109, 97, 105, 110]⟩⟩ : ByteArray), (⟨⟨[102]⟩⟩ : ByteArray), (⟨⟨[103]⟩⟩ : ByteArray)] : List ByteArray).length : Int))).bind fun _ =>
    (spec_l3DrawDecs (2, (([(⟨⟨[109, 97, 105, 110]⟩⟩ : ByteArray), (⟨⟨[102]⟩⟩ : ByteArray), (⟨⟨[103]⟩⟩ : ByteArray)] : List ByteArray).take (IntKind.i64.wrap (1 + r2.1)).toNat), r2.2)).bind fun r3 =>
    some (r3.1, r1.2, r3.2)) :=
  (RT_eq P tab (.fn s_spec_l3Prog) x).trans (by kernel_rfl)
theorem e_spec_l1Strs_L0 (x : Int × spec_l1Cur × (List ByteArray)) : M.spec_l1Strs_L0 x = (bif decide (0 < x.1) then ((spec_l1Str ([(⟨⟨[120]⟩⟩ : ByteArray), (⟨⟨[121]⟩⟩ : ByteArray), (⟨⟨[95]⟩⟩ : ByteArray), (⟨⟨[122]⟩⟩ : ByteArray), (⟨⟨[65]⟩⟩ : ByteArray)], x.2.1)).bind fun r1 =>
      (gd (x.2.2.length + [r1.1].length ≤ grow)).bind fun _ =>
      spec_l1Strs_L0 ((IntKind.i64.wrap (x.1 - 1)), r1.2, (x.2.2 ++ [r1.1]))) else
    some (x.2.1, x.2.2)) :=
  (RT_eq P tab (.lp s_spec_l1Strs L_spec_l1Strs_L0) x).trans (by kernel_rfl)
theorem e_spec_l1Strs (x : spec_l1Cur) : M.spec_l1Strs x = ((spec_l1Below (6, x)).bind fun r1 =>
    (spec_l1Strs_L0 (r1.1, r1.2, [])).bind fun s2 =>
    some (s2.2, s2.1)) :=
  (RT_eq P tab (.fn s_spec_l1Strs) x).trans (by kernel_rfl)
theorem e_spec_l3VarV (x : ByteArray) : M.spec_l3VarV x = (some (1, x, 0, [], [], [])) :=
  (RT_eq P tab (.fn s_spec_l3VarV) x).trans (by kernel_rfl)
theorem e_spec_l3NumV (x : Int) : M.spec_l3NumV x = (some (3, (⟨⟨[]⟩⟩ : ByteArray), x, [], [], [])) :=
  (RT_eq P tab (.fn s_spec_l3NumV) x).trans (by kernel_rfl)
theorem e_spec_l3AppV (x : Exp × Exp) : M.spec_l3AppV x = (some (4, (⟨⟨[]⟩⟩ : ByteArray), 0, [x.1, x.2], [], [])) :=
  (RT_eq P tab (.fn s_spec_l3AppV) x).trans (by kernel_rfl)
theorem f_spec_l3DrawV (x : Int × spec_l1Cur) : M.spec_l3DrawV x = ((spec_l1Int ([1, 1, 3, 2, 4, 4, 5, 6, 7, 8, 9, 9], x.2)).bind fun r1 =>
    (bif decide (x.1 ≤ 0) then (bif decide (3 < r1.1) then some (1, r1.2, (Exp.mk 0 (⟨⟨[]⟩⟩ : ByteArray) 0 [] [] [])) else
        some (r1.1, r1.2, (Exp.mk 0 (⟨⟨[]⟩⟩ : ByteArray) 0 [] [] []))) else
      some (r1.1, r1.2, (Exp.mk 0 (⟨⟨[]⟩⟩ : ByteArray) 0 [] [] []))).bind fun s2 =>
    bif decide (s2.1 = 1) then ((spec_l3Name s2.2.1).bind fun r3 =>
      (spec_l3VarV r3.1).bind fun r4 =>
      some (r4.1, r4.2.1, r4.2.2.1, r4.2.2.2.1, r3.2, r4.2.2.2.2.1, r4.2.2.2.2.2)) else
    bif decide (s2.1 = 2) then ((spec_l1Str ([(⟨⟨[84, 114, 117, 101]⟩⟩ : ByteArray), (⟨⟨[70, 97, 108, 115, 101]⟩⟩ : ByteArray), (⟨⟨[65]⟩⟩ : ByteArray), (⟨⟨[66]⟩⟩ : ByteArray), (⟨⟨[67]⟩⟩ : ByteArray)], s2.2.1)).bind fun r5 =>
      some (s2.1, r5.1, 0, [], r5.2, [], [])) else
    bif decide (s2.1 = 3) then ((spec_l1Below (50, s2.2.1)).bind fun r6 =>
      (spec_l3NumV r6.1).bind fun r7 =>
      some (r7.1, r7.2.1, r7.2.2.1, r7.2.2.2.1, r6.2, r7.2.2.2.2.1, r7.2.2.2.2.2)) else
    bif decide (s2.1 = 5) then ((spec_l1Str ([(⟨⟨[120]⟩⟩ : ByteArray), (⟨⟨[121]⟩⟩ : ByteArray), (⟨⟨[95]⟩⟩ : ByteArray)], s2.2.1)).bind fun r8 =>
      (spec_l3Draw ((IntKind.i64.wrap (x.1 - 1)), r8.2)).bind fun r9 =>
      some (s2.1, r8.1, 0, [r9.1], r9.2, [], [])) else
    bif decide (s2.1 = 6) then ((spec_l1Below (2, s2.2.1)).bind fun r10 =>
      (gd (0 ≤ (IntKind.i64.wrap (1 + r10.1)))).bind fun _ =>
      (gd ((IntKind.i64.wrap (1 + r10.1)) ≤ (([(⟨⟨[120]⟩⟩ : ByteArray), (⟨⟨[121]⟩⟩ : ByteArray)] : List ByteArray).length : Int))).bind fun _ =>
      (spec_l3DrawDecs ((IntKind.i64.wrap (x.1 - 1)), (([(⟨⟨[120]⟩⟩ : ByteArray), (⟨⟨[121]⟩⟩ : ByteArray)] : List ByteArray).take (IntKind.i64.wrap (1 + r10.1)).toNat), r10.2)).bind fun r11 =>
      (spec_l3Draw ((IntKind.i64.wrap (x.1 - 1)), r11.1)).bind fun r12 =>
      some (s2.1, (⟨⟨[]⟩⟩ : ByteArray), 0, [r12.1], r12.2, r11.2, [])) else
    bif decide (s2.1 = 7) then ((spec_l3Draw ((IntKind.i64.wrap (x.1 - 1)), s2.2.1)).bind fun r13 =>
      X.meet ((spec_l3DrawAlts ((IntKind.i64.wrap (x.1 - 1)), r13.2)).bind fun r14 =>
        some (s2.1, (⟨⟨[]⟩⟩ : ByteArray), 0, [r13.1], r14.1, [], r14.2)) ((spec_l3DrawAlts ((IntKind.i64.wrap (x.1 - 1)), r13.2)).bind fun r14 =>
        some (s2.1, (⟨⟨[]⟩⟩ : ByteArray), 0, [r13.1], r14.1, [], r14.2))) else
    bif decide (s2.1 = 8) then ((spec_l3Draw ((IntKind.i64.wrap (x.1 - 1)), s2.2.1)).bind fun r15 =>
      (spec_l3Draw ((IntKind.i64.wrap (x.1 - 1)), r15.2)).bind fun r16 =>
      (spec_l3Draw ((IntKind.i64.wrap (x.1 - 1)), r16.2)).bind fun r17 =>
      some (s2.1, (⟨⟨[]⟩⟩ : ByteArray), 0, [r15.1, r16.1, r17.1], r17.2, [], [])) else
    bif decide (s2.1 = 9) then ((spec_l3Draw ((IntKind.i64.wrap (x.1 - 1)), s2.2.1)).bind fun r18 =>
      (spec_l1Str ([(⟨⟨[43]⟩⟩ : ByteArray), (⟨⟨[45]⟩⟩ : ByteArray), (⟨⟨[42]⟩⟩ : ByteArray), (⟨⟨[61, 61]⟩⟩ : ByteArray), (⟨⟨[60]⟩⟩ : ByteArray)], r18.2)).bind fun r19 =>
      (spec_l3Draw ((IntKind.i64.wrap (x.1 - 1)), r19.2)).bind fun r20 =>
      some (s2.1, r19.1, 0, [r18.1, r20.1], r20.2, [], [])) else
    (spec_l3Draw ((IntKind.i64.wrap (x.1 - 1)), s2.2.1)).bind fun r21 =>
    (spec_l3Draw ((IntKind.i64.wrap (x.1 - 1)), r21.2)).bind fun r22 =>
    (spec_l3AppV (r21.1, r22.1)).bind fun r23 =>
    some (r23.1, r23.2.1, r23.2.2.1, r23.2.2.2.1, r22.2, r23.2.2.2.2.1, r23.2.2.2.2.2)) :=
  (RT_eq P tab (.fn s_spec_l3DrawV) x).trans (by kernel_rfl)
theorem e_spec_l3DrawV (x : Int × spec_l1Cur) : M.spec_l3DrawV x = ((spec_l1Int ([1, 1, 3, 2, 4, 4, 5, 6, 7, 8, 9, 9], x.2)).bind fun r1 =>
    (bif decide (x.1 ≤ 0) then (bif decide (3 < r1.1) then some (1, r1.2, (Exp.mk 0 (⟨⟨[]⟩⟩ : ByteArray) 0 [] [] [])) else
        some (r1.1, r1.2, (Exp.mk 0 (⟨⟨[]⟩⟩ : ByteArray) 0 [] [] []))) else
      some (r1.1, r1.2, (Exp.mk 0 (⟨⟨[]⟩⟩ : ByteArray) 0 [] [] []))).bind fun s2 =>
    bif decide (s2.1 = 1) then ((spec_l3Name s2.2.1).bind fun r3 =>
      (spec_l3VarV r3.1).bind fun r4 =>
      some (r4.1, r4.2.1, r4.2.2.1, r4.2.2.2.1, r3.2, r4.2.2.2.2.1, r4.2.2.2.2.2)) else
    bif decide (s2.1 = 2) then ((spec_l1Str ([(⟨⟨[84, 114, 117, 101]⟩⟩ : ByteArray), (⟨⟨[70, 97, 108, 115, 101]⟩⟩ : ByteArray), (⟨⟨[65]⟩⟩ : ByteArray), (⟨⟨[66]⟩⟩ : ByteArray), (⟨⟨[67]⟩⟩ : ByteArray)], s2.2.1)).bind fun r5 =>
      some (s2.1, r5.1, 0, [], r5.2, [], [])) else
    bif decide (s2.1 = 3) then ((spec_l1Below (50, s2.2.1)).bind fun r6 =>
      (spec_l3NumV r6.1).bind fun r7 =>
      some (r7.1, r7.2.1, r7.2.2.1, r7.2.2.2.1, r6.2, r7.2.2.2.2.1, r7.2.2.2.2.2)) else
    bif decide (s2.1 = 5) then ((spec_l1Str ([(⟨⟨[120]⟩⟩ : ByteArray), (⟨⟨[121]⟩⟩ : ByteArray), (⟨⟨[95]⟩⟩ : ByteArray)], s2.2.1)).bind fun r8 =>
      (spec_l3Draw ((IntKind.i64.wrap (x.1 - 1)), r8.2)).bind fun r9 =>
      some (s2.1, r8.1, 0, [r9.1], r9.2, [], [])) else
    bif decide (s2.1 = 6) then ((spec_l1Below (2, s2.2.1)).bind fun r10 =>
      (gd (0 ≤ (IntKind.i64.wrap (1 + r10.1)))).bind fun _ =>
      (gd ((IntKind.i64.wrap (1 + r10.1)) ≤ (([(⟨⟨[120]⟩⟩ : ByteArray), (⟨⟨[121]⟩⟩ : ByteArray)] : List ByteArray).length : Int))).bind fun _ =>
      (spec_l3DrawDecs ((IntKind.i64.wrap (x.1 - 1)), (([(⟨⟨[120]⟩⟩ : ByteArray), (⟨⟨[121]⟩⟩ : ByteArray)] : List ByteArray).take (IntKind.i64.wrap (1 + r10.1)).toNat), r10.2)).bind fun r11 =>
      (spec_l3Draw ((IntKind.i64.wrap (x.1 - 1)), r11.1)).bind fun r12 =>
      some (s2.1, (⟨⟨[]⟩⟩ : ByteArray), 0, [r12.1], r12.2, r11.2, [])) else
    bif decide (s2.1 = 7) then ((spec_l3Draw ((IntKind.i64.wrap (x.1 - 1)), s2.2.1)).bind fun r13 =>
      (spec_l3DrawAlts ((IntKind.i64.wrap (x.1 - 1)), r13.2)).bind fun r14 =>
      some (s2.1, (⟨⟨[]⟩⟩ : ByteArray), 0, [r13.1], r14.1, [], r14.2)) else
    bif decide (s2.1 = 8) then ((spec_l3Draw ((IntKind.i64.wrap (x.1 - 1)), s2.2.1)).bind fun r15 =>
      (spec_l3Draw ((IntKind.i64.wrap (x.1 - 1)), r15.2)).bind fun r16 =>
      (spec_l3Draw ((IntKind.i64.wrap (x.1 - 1)), r16.2)).bind fun r17 =>
      some (s2.1, (⟨⟨[]⟩⟩ : ByteArray), 0, [r15.1, r16.1, r17.1], r17.2, [], [])) else
    bif decide (s2.1 = 9) then ((spec_l3Draw ((IntKind.i64.wrap (x.1 - 1)), s2.2.1)).bind fun r18 =>
      (spec_l1Str ([(⟨⟨[43]⟩⟩ : ByteArray), (⟨⟨[45]⟩⟩ : ByteArray), (⟨⟨[42]⟩⟩ : ByteArray), (⟨⟨[61, 61]⟩⟩ : ByteArray), (⟨⟨[60]⟩⟩ : ByteArray)], r18.2)).bind fun r19 =>
      (spec_l3Draw ((IntKind.i64.wrap (x.1 - 1)), r19.2)).bind fun r20 =>
      some (s2.1, r19.1, 0, [r18.1, r20.1], r20.2, [], [])) else
    (spec_l3Draw ((IntKind.i64.wrap (x.1 - 1)), s2.2.1)).bind fun r21 =>
    (spec_l3Draw ((IntKind.i64.wrap (x.1 - 1)), r21.2)).bind fun r22 =>
    (spec_l3AppV (r21.1, r22.1)).bind fun r23 =>
    some (r23.1, r23.2.1, r23.2.2.1, r23.2.2.2.1, r22.2, r23.2.2.2.2.1, r23.2.2.2.2.2)) := by
  have h := f_spec_l3DrawV x
  simp only [meet_self] at h
  exact h
theorem e_spec_l3Any_L0 (x : Int × spec_l1Cur × Exp × Exp) : M.spec_l3Any_L0 x = (bif decide (0 < x.1) then spec_l3Any_L0 ((IntKind.i64.wrap (x.1 - 1)), x.2.1, x.2.2.1, (Exp.mk 5 (⟨⟨[113]⟩⟩ : ByteArray) 0 [x.2.2.2] [] [])) else
    some (x.2.1, x.2.2.1, x.2.2.2)) :=
  (RT_eq P tab (.lp s_spec_l3Any L_spec_l3Any_L0) x).trans (by kernel_rfl)
theorem e_spec_l3Any (x : spec_l1Cur) : M.spec_l3Any x = ((spec_l3DrawV (3, x)).bind fun r1 =>
    (spec_l1Below (12, r1.2.2.2.2.1)).bind fun r2 =>
    bif decide (r2.1 = 0) then ((spec_l1Int ([0, 10, 1, 4, 6], r2.2)).bind fun r3 =>
      some ((Exp.mk r3.1 r1.2.1 r1.2.2.1 r1.2.2.2.1 r1.2.2.2.2.2.1 r1.2.2.2.2.2.2), r3.2)) else
    bif decide (r2.1 = 1) then ((spec_l1Str ([(⟨⟨[]⟩⟩ : ByteArray), (⟨⟨[65]⟩⟩ : ByteArray), (⟨⟨[120]⟩⟩ : ByteArray), (⟨⟨[43]⟩⟩ : ByteArray), (⟨⟨[108, 101, 116]⟩⟩ : ByteArray)], r2.2)).bind fun r4 =>
      some ((Exp.mk r1.1 r4.1 r1.2.2.1 r1.2.2.2.1 r1.2.2.2.2.2.1 r1.2.2.2.2.2.2), r4.2)) else
    bif decide (r2.1 = 2) then ((spec_l1Int ([(-1), 1, 999999, 1000000], r2.2)).bind fun r5 =>
      some ((Exp.mk r1.1 r1.2.1 r5.1 r1.2.2.2.1 r1.2.2.2.2.2.1 r1.2.2.2.2.2.2), r5.2)) else
    bif decide (r2.1 = 3) then ((spec_l1Below (13, r2.2)).bind fun r6 =>
      (spec_l3Any_L0 (r6.1, r6.2, (Exp.mk 0 (⟨⟨[]⟩⟩ : ByteArray) 0 [] [] []), (Exp.mk r1.1 r1.2.1 r1.2.2.1 r1.2.2.2.1 r1.2.2.2.2.2.1 r1.2.2.2.2.2.2))).bind fun s7 =>
      some (s7.2.2, s7.1)) else
    bif decide (r2.1 = 4) then ((spec_l1Str ([(⟨⟨[]⟩⟩ : ByteArray), (⟨⟨[65]⟩⟩ : ByteArray), (⟨⟨[97]⟩⟩ : ByteArray)], r2.2)).bind fun r8 =>
      (spec_l1Strs r8.2).bind fun r9 =>
      (gd (r1.2.2.2.2.2.2.length + [(Alt.mk r8.1 r9.1 (Exp.mk 0 (⟨⟨[]⟩⟩ : ByteArray) 0 [] [] []))].length ≤ grow)).bind fun _ =>
      some ((Exp.mk r1.1 r1.2.1 r1.2.2.1 r1.2.2.2.1 r1.2.2.2.2.2.1 (r1.2.2.2.2.2.2 ++ [(Alt.mk r8.1 r9.1 (Exp.mk 0 (⟨⟨[]⟩⟩ : ByteArray) 0 [] [] []))])), r9.2)) else
    bif decide (r2.1 = 5) then ((spec_l1Str ([(⟨⟨[120]⟩⟩ : ByteArray), (⟨⟨[88]⟩⟩ : ByteArray), (⟨⟨[111, 102]⟩⟩ : ByteArray)], r2.2)).bind fun r10 =>
      (spec_l1Strs r10.2).bind fun r11 =>
      (spec_l3Num 1).bind fun r12 =>
      (gd (r1.2.2.2.2.2.1.length + [(Dec.mk r10.1 r11.1 (Exp.mk r12.K r12.S r12.N r12.L r12.Decs r12.Alts) [])].length ≤ grow)).bind fun _ =>
      some ((Exp.mk r1.1 r1.2.1 r1.2.2.1 r1.2.2.2.1 (r1.2.2.2.2.2.1 ++ [(Dec.mk r10.1 r11.1 (Exp.mk r12.K r12.S r12.N r12.L r12.Decs r12.Alts) [])]) r1.2.2.2.2.2.2), r11.2)) else
    some ((Exp.mk r1.1 r1.2.1 r1.2.2.1 r1.2.2.2.1 r1.2.2.2.2.2.1 r1.2.2.2.2.2.2), r2.2)) :=
  (RT_eq P tab (.fn s_spec_l3Any) x).trans (by kernel_rfl)
theorem f_spec_l3ProgAny (x : spec_l1Cur) : M.spec_l3ProgAny x = ((spec_l3Prog x).bind fun r1 =>
    (spec_l1Below (10, r1.1)).bind fun r2 =>
    bif decide (r2.1 = 0) then ((spec_l1Str ([(⟨⟨[109, 97, 105, 110]⟩⟩ : ByteArray), (⟨⟨[88]⟩⟩ : ByteArray), (⟨⟨[107]⟩⟩ : ByteArray)], r2.2)).bind fun r3 =>
      (spec_l1Strs r3.2).bind fun r4 =>
      (spec_l3Any r4.2).bind fun r5 =>
      (gd (r1.2.2.length + [(Dec.mk r3.1 r4.1 (Exp.mk r5.1.K r5.1.S r5.1.N r5.1.L r5.1.Decs r5.1.Alts) [])].length ≤ grow)).bind fun _ =>
      some ((Prog.mk r1.2.1 (r1.2.2 ++ [(Dec.mk r3.1 r4.1 (Exp.mk r5.1.K r5.1.S r5.1.N r5.1.L r5.1.Decs r5.1.Alts) [])])), r5.2)) else
    bif decide (r2.1 = 1) then (X.meet (X.meet ((spec_l1Str ([(⟨⟨[84]⟩⟩ : ByteArray), (⟨⟨[73, 110, 116]⟩⟩ : ByteArray), (⟨⟨[75]⟩⟩ : ByteArray), (⟨⟨[107]⟩⟩ : ByteArray)], r2.2)).bind fun r6 =>
          (spec_l1Str ([(⟨⟨[65]⟩⟩ : ByteArray), (⟨⟨[84, 114, 117, 101]⟩⟩ : ByteArray), (⟨⟨[90]⟩⟩ : ByteArray), (⟨⟨[122]⟩⟩ : ByteArray)], r6.2)).bind fun r7 =>
          (spec_l1Below (2, r7.2)).bind fun r8 =>
          (gd (0 ≤ r8.1)).bind fun _ =>
          (gd (r8.1 ≤ 1099511627776)).bind fun _ =>
          (gd (r1.2.1.length + [(Data.mk r6.1 [(Con.mk r7.1 (List.replicate r8.1.toNat (Ty.mk 0 (⟨⟨[]⟩⟩ : ByteArray) 0 [])))])].length ≤ grow)).bind fun _ =>
          some ((Prog.mk (r1.2.1 ++ [(Data.mk r6.1 [(Con.mk r7.1 (List.replicate r8.1.toNat (Ty.mk 0 (⟨⟨[]⟩⟩ : ByteArray) 0 [])))])]) r1.2.2), r8.2)) ((spec_l1Str ([(⟨⟨[84]⟩⟩ : ByteArray), (⟨⟨[73, 110, 116]⟩⟩ : ByteArray), (⟨⟨[75]⟩⟩ : ByteArray), (⟨⟨[107]⟩⟩ : ByteArray)], r2.2)).bind fun r6 =>
          (spec_l1Str ([(⟨⟨[65]⟩⟩ : ByteArray), (⟨⟨[84, 114, 117, 101]⟩⟩ : ByteArray), (⟨⟨[90]⟩⟩ : ByteArray), (⟨⟨[122]⟩⟩ : ByteArray)], r6.2)).bind fun r7 =>
          (spec_l1Below (2, r7.2)).bind fun r8 =>
          (gd (0 ≤ r8.1)).bind fun _ =>
          (gd (r8.1 ≤ 1099511627776)).bind fun _ =>
          (gd (r1.2.1.length + [(Data.mk r6.1 [(Con.mk r7.1 (List.replicate r8.1.toNat (Ty.mk 0 (⟨⟨[]⟩⟩ : ByteArray) 0 [])))])].length ≤ grow)).bind fun _ =>
          some ((Prog.mk (r1.2.1 ++ [(Data.mk r6.1 [(Con.mk r7.1 (List.replicate r8.1.toNat (Ty.mk 0 (⟨⟨[]⟩⟩ : ByteArray) 0 [])))])]) r1.2.2), r8.2))) ((spec_l1Str ([(⟨⟨[84]⟩⟩ : ByteArray), (⟨⟨[73, 110, 116]⟩⟩ : ByteArray), (⟨⟨[75]⟩⟩ : ByteArray), (⟨⟨[107]⟩⟩ : ByteArray)], r2.2)).bind fun r6 =>
        (spec_l1Str ([(⟨⟨[65]⟩⟩ : ByteArray), (⟨⟨[84, 114, 117, 101]⟩⟩ : ByteArray), (⟨⟨[90]⟩⟩ : ByteArray), (⟨⟨[122]⟩⟩ : ByteArray)], r6.2)).bind fun r7 =>
        (spec_l1Below (2, r7.2)).bind fun r8 =>
        (gd (0 ≤ r8.1)).bind fun _ =>
        (gd (r8.1 ≤ 1099511627776)).bind fun _ =>
        (gd (r1.2.1.length + [(Data.mk r6.1 [(Con.mk r7.1 (List.replicate r8.1.toNat (Ty.mk 0 (⟨⟨[]⟩⟩ : ByteArray) 0 [])))])].length ≤ grow)).bind fun _ =>
        some ((Prog.mk (r1.2.1 ++ [(Data.mk r6.1 [(Con.mk r7.1 (List.replicate r8.1.toNat (Ty.mk 0 (⟨⟨[]⟩⟩ : ByteArray) 0 [])))])]) r1.2.2), r8.2))) else
    bif decide (r2.1 = 2) then ((gd (r1.2.1.length + [(Data.mk (⟨⟨[69]⟩⟩ : ByteArray) [])].length ≤ grow)).bind fun _ =>
      some ((Prog.mk (r1.2.1 ++ [(Data.mk (⟨⟨[69]⟩⟩ : ByteArray) [])]) r1.2.2), r2.2)) else
    bif decide (r2.1 = 3) then some ((Prog.mk r1.2.1 []), r2.2) else
    some ((Prog.mk r1.2.1 r1.2.2), r2.2)) :=
  (RT_eq P tab (.fn s_spec_l3ProgAny) x).trans (by kernel_rfl)
theorem e_spec_l3ProgAny (x : spec_l1Cur) : M.spec_l3ProgAny x = ((spec_l3Prog x).bind fun r1 =>
    (spec_l1Below (10, r1.1)).bind fun r2 =>
    bif decide (r2.1 = 0) then ((spec_l1Str ([(⟨⟨[109, 97, 105, 110]⟩⟩ : ByteArray), (⟨⟨[88]⟩⟩ : ByteArray), (⟨⟨[107]⟩⟩ : ByteArray)], r2.2)).bind fun r3 =>
      (spec_l1Strs r3.2).bind fun r4 =>
      (spec_l3Any r4.2).bind fun r5 =>
      (gd (r1.2.2.length + [(Dec.mk r3.1 r4.1 (Exp.mk r5.1.K r5.1.S r5.1.N r5.1.L r5.1.Decs r5.1.Alts) [])].length ≤ grow)).bind fun _ =>
      some ((Prog.mk r1.2.1 (r1.2.2 ++ [(Dec.mk r3.1 r4.1 (Exp.mk r5.1.K r5.1.S r5.1.N r5.1.L r5.1.Decs r5.1.Alts) [])])), r5.2)) else
    bif decide (r2.1 = 1) then ((spec_l1Str ([(⟨⟨[84]⟩⟩ : ByteArray), (⟨⟨[73, 110, 116]⟩⟩ : ByteArray), (⟨⟨[75]⟩⟩ : ByteArray), (⟨⟨[107]⟩⟩ : ByteArray)], r2.2)).bind fun r6 =>
      (spec_l1Str ([(⟨⟨[65]⟩⟩ : ByteArray), (⟨⟨[84, 114, 117, 101]⟩⟩ : ByteArray), (⟨⟨[90]⟩⟩ : ByteArray), (⟨⟨[122]⟩⟩ : ByteArray)], r6.2)).bind fun r7 =>
      (spec_l1Below (2, r7.2)).bind fun r8 =>
      (gd (0 ≤ r8.1)).bind fun _ =>
      (gd (r8.1 ≤ 1099511627776)).bind fun _ =>
      (gd (r1.2.1.length + [(Data.mk r6.1 [(Con.mk r7.1 (List.replicate r8.1.toNat (Ty.mk 0 (⟨⟨[]⟩⟩ : ByteArray) 0 [])))])].length ≤ grow)).bind fun _ =>
      some ((Prog.mk (r1.2.1 ++ [(Data.mk r6.1 [(Con.mk r7.1 (List.replicate r8.1.toNat (Ty.mk 0 (⟨⟨[]⟩⟩ : ByteArray) 0 [])))])]) r1.2.2), r8.2)) else
    bif decide (r2.1 = 2) then ((gd (r1.2.1.length + [(Data.mk (⟨⟨[69]⟩⟩ : ByteArray) [])].length ≤ grow)).bind fun _ =>
      some ((Prog.mk (r1.2.1 ++ [(Data.mk (⟨⟨[69]⟩⟩ : ByteArray) [])]) r1.2.2), r2.2)) else
    bif decide (r2.1 = 3) then some ((Prog.mk r1.2.1 []), r2.2) else
    some ((Prog.mk r1.2.1 r1.2.2), r2.2)) := by
  have h := f_spec_l3ProgAny x
  simp only [meet_self] at h
  exact h
theorem e_spec_l1Prog (x : spec_l1Cur) : M.spec_l1Prog x = ((spec_l1Str ([(⟨⟨[109, 97, 105, 110, 32, 61, 32, 49]⟩⟩ : ByteArray), (⟨⟨[109, 97, 105, 110, 32, 61, 32, 102, 32, 51, 10, 102, 32, 120, 32, 61, 32, 120, 32, 43, 32, 49]⟩⟩ : ByteArray), (⟨⟨[100, 97, 116, 97, 32, 84, 32, 61, 32, 65, 32, 124, 32, 66, 32, 73, 110, 116, 10, 109, 97, 105, 110, 32, 61, 32, 99, 97, 115, 101, 32, 66, 32, 53, 32, 111, 102, 10, 32, 32, 65, 32, 45, 62, 32, 48, 10, 32, 32, 66, 32, 110, 32, 45, 62, 32, 110]⟩⟩ : ByteArray), (⟨⟨[109, 97, 105, 110, 32, 61, 32, 108, 101, 116, 10, 32, 32, 32, 32, 120, 32, 61, 32, 50, 10, 32, 32, 32, 32, 121, 32, 61, 32, 120, 32, 42, 32, 120, 10, 32, 32, 105, 110, 32, 121]⟩⟩ : ByteArray), (⟨⟨[102, 32, 120, 32, 61, 32, 103, 32, 120, 10, 32, 32, 119, 104, 101, 114, 101, 10, 32, 32, 32, 32, 103, 32, 121, 32, 61, 32, 121, 32, 43, 32, 120, 10, 109, 97, 105, 110, 32, 61, 32, 102, 32, 52]⟩⟩ : ByteArray), (⟨⟨[100, 97, 116, 97, 32, 76, 32, 61, 32, 78, 32, 124, 32, 67, 32, 73, 110, 116, 32, 76, 10, 115, 117, 109, 32, 108, 32, 61, 32, 99, 97, 115, 101, 32, 108, 32, 111, 102, 10, 32, 32, 78, 32, 45, 62, 32, 48, 10, 32, 32, 67, 32, 104, 32, 116, 32, 45, 62, 32, 104, 32, 43, 32, 115, 117, 109, 32, 116, 10, 109, 97, 105, 110, 32, 61, 32, 115, 117, 109, 32, 40, 67, 32, 49, 32, 40, 67, 32, 50, 32, 78, 41, 41]⟩⟩ : ByteArray), (⟨⟨[109, 97, 105, 110, 32, 61, 32, 105, 102, 32, 49, 32, 60, 32, 50, 32, 116, 104, 101, 110, 32, 40, 92, 120, 32, 45, 62, 32, 120, 41, 32, 55, 32, 101, 108, 115, 101, 32, 109, 97, 105, 110]⟩⟩ : ByteArray), (⟨⟨[116, 119, 105, 99, 101, 32, 102, 32, 120, 32, 61, 32, 102, 32, 40, 102, 32, 120, 41, 10, 109, 97, 105, 110, 32, 61, 32, 116, 119, 105, 99, 101, 32, 40, 92, 110, 32, 45, 62, 32, 110, 32, 42, 32, 50, 41, 32, 51]⟩⟩ : ByteArray), (⟨⟨[111, 110, 101, 115, 32, 61, 32, 67, 32, 49, 32, 111, 110, 101, 115, 10, 100, 97, 116, 97, 32, 76, 32, 61, 32, 78, 32, 124, 32, 67, 32, 73, 110, 116, 32, 76, 10, 104, 100, 32, 108, 32, 61, 32, 99, 97, 115, 101, 32, 108, 32, 111, 102, 10, 32, 32, 67, 32, 104, 32, 116, 32, 45, 62, 32, 104, 10, 109, 97, 105, 110, 32, 61, 32, 104, 100, 32, 111, 110, 101, 115]⟩⟩ : ByteArray)], x)).bind fun r1 =>
    some (r1.1, r1.2)) :=
  (RT_eq P tab (.fn s_spec_l1Prog) x).trans (by kernel_rfl)
theorem e_spec_l1Has_L0 (x : (List ByteArray) × ByteArray × Int) : M.spec_l1Has_L0 x = (bif decide (x.2.2 < (x.1.length : Int)) then ((ix x.1 x.2.2).bind fun e1 =>
      bif decide (e1 = x.2.1) then some (.inl true) else
      spec_l1Has_L0 (x.1, x.2.1, (IntKind.i64.wrap (x.2.2 + 1)))) else
    some (.inr ())) :=
  (RT_eq P tab (.lp s_spec_l1Has L_spec_l1Has_L0) x).trans (by kernel_rfl)
theorem e_spec_l1Has (x : (List ByteArray) × ByteArray) : M.spec_l1Has x = ((spec_l1Has_L0 (x.1, x.2, 0)).bind fun s1 =>
    Sum.elim (fun a2 =>
      some a2) (fun b3 =>
      some false) s1) :=
  (RT_eq P tab (.fn s_spec_l1Has) x).trans (by kernel_rfl)
theorem e_spec_l7Prog (x : spec_l1Cur) : M.spec_l7Prog x = ((spec_l1Once (4, x)).bind fun r1 =>
    bif r1.1 then ((spec_l3ProgAny r1.2).bind fun r2 =>
      some (r2.1, r2.2)) else
    (spec_l1Prog r1.2).bind fun r3 =>
    (spec_ParseProg r3.1).bind fun r4 =>
    some (r4.1, r3.2)) :=
  (RT_eq P tab (.fn s_spec_l7Prog) x).trans (by kernel_rfl)
theorem e_spec_l8Decs (x : spec_l1Cur) : M.spec_l8Decs x = ((spec_l1Once (2, x)).bind fun r1 =>
    bif r1.1 then ((spec_l7Prog r1.2).bind fun r2 =>
      some (r2.1.Decs, r2.2)) else
    (spec_l1Below (4, r1.2)).bind fun r3 =>
    (gd (0 ≤ (IntKind.i64.wrap (1 + r3.1)))).bind fun _ =>
    (gd ((IntKind.i64.wrap (1 + r3.1)) ≤ (([(⟨⟨[102]⟩⟩ : ByteArray), (⟨⟨[103]⟩⟩ : ByteArray), (⟨⟨[104]⟩⟩ : ByteArray), (⟨⟨[120]⟩⟩ : ByteArray)] : List ByteArray).length : Int))).bind fun _ =>
    (spec_l3DrawDecs (2, (([(⟨⟨[102]⟩⟩ : ByteArray), (⟨⟨[103]⟩⟩ : ByteArray), (⟨⟨[104]⟩⟩ : ByteArray), (⟨⟨[120]⟩⟩ : ByteArray)] : List ByteArray).take (IntKind.i64.wrap (1 + r3.1)).toNat), r3.2)).bind fun r4 =>
    some (r4.2, r4.1)) :=
  (RT_eq P tab (.fn s_spec_l8Decs) x).trans (by kernel_rfl)
theorem e_spec_DrawGroups (x : List Int) : M.spec_DrawGroups x = ((spec_l1New x).bind fun r1 =>
    (spec_l8Decs r1).bind fun r2 =>
    some r2.1) :=
  (RT_eq P tab (.fn s_spec_DrawGroups) x).trans (by kernel_rfl)
theorem e_slices_Index_stringV_L0 (x : ByteArray × Int × Int × (List ByteArray)) : M.slices_Index_stringV_L0 x = (bif decide (x.2.2.1 < x.2.1) then ((gd (0 ≤ x.2.2.1)).bind fun _ =>
      (gd (x.2.2.1 < (x.2.2.2.length : Int))).bind fun _ =>
      (x.2.2.2[x.2.2.1.toNat]?).bind fun e1 =>
      bif decide (x.1 = e1) then some (.inl x.2.2.1) else
      slices_Index_stringV_L0 (x.1, x.2.1, (IntKind.i64.wrap (x.2.2.1 + 1)), x.2.2.2)) else
    some (.inr ())) :=
  (RT_eq P tab (.lp s_slices_Index_stringV L_slices_Index_stringV_L0) x).trans (by kernel_rfl)
theorem e_slices_Index_stringV (x : ByteArray × (List ByteArray)) : M.slices_Index_stringV x = ((slices_Index_stringV_L0 (x.1, (x.2.length : Int), 0, x.2)).bind fun s1 =>
    Sum.elim (fun a2 =>
      some a2) (fun b3 =>
      some (-1)) s1) :=
  (RT_eq P tab (.fn s_slices_Index_stringV) x).trans (by kernel_rfl)
theorem e_slices_Contains_stringV (x : ByteArray × (List ByteArray)) : M.slices_Contains_stringV x = ((slices_Index_stringV (x.1, x.2)).bind fun r1 =>
    some (decide (0 ≤ r1))) :=
  (RT_eq P tab (.fn s_slices_Contains_stringV) x).trans (by kernel_rfl)
theorem e_impl_decAt_1 (x : Dec × ByteArray) : M.impl_decAt_1 x = (some (decide (x.1.Name = x.2), x.2)) :=
  (RT_eq P tab (.fn s_impl_decAt_1) x).trans (by kernel_rfl)
theorem e_slices_IndexFunc_impl_Dec_at_decAt_1_L0 (x : (List Dec) × Int × Int × ByteArray) : M.slices_IndexFunc_impl_Dec_at_decAt_1_L0 x = (bif decide (x.2.2.1 < x.2.1) then ((ix x.1 x.2.2.1).bind fun e1 =>
      (impl_decAt_1 (e1, x.2.2.2)).bind fun r2 =>
      bif r2.1 then some (.inl (x.2.2.1, r2.2)) else
      slices_IndexFunc_impl_Dec_at_decAt_1_L0 (x.1, x.2.1, (IntKind.i64.wrap (x.2.2.1 + 1)), r2.2)) else
    some (.inr x.2.2.2)) :=
  (RT_eq P tab (.lp s_slices_IndexFunc_impl_Dec_at_decAt_1 L_slices_IndexFunc_impl_Dec_at_decAt_1_L0) x).trans (by kernel_rfl)
theorem e_slices_IndexFunc_impl_Dec_at_decAt_1 (x : (List Dec) × ByteArray) : M.slices_IndexFunc_impl_Dec_at_decAt_1 x = ((slices_IndexFunc_impl_Dec_at_decAt_1_L0 (x.1, (x.1.length : Int), 0, x.2)).bind fun s1 =>
    Sum.elim (fun a2 =>
      some (a2.1, a2.2)) (fun b3 =>
      some ((-1), b3)) s1) :=
  (RT_eq P tab (.fn s_slices_IndexFunc_impl_Dec_at_decAt_1) x).trans (by kernel_rfl)
theorem e_impl_decAt (x : (List Dec) × ByteArray) : M.impl_decAt x = ((slices_IndexFunc_impl_Dec_at_decAt_1 (x.1, x.2)).bind fun r1 =>
    some r1.1) :=
  (RT_eq P tab (.fn s_impl_decAt) x).trans (by kernel_rfl)
theorem e_slices_Grow_string (x : Int × (List ByteArray)) : M.slices_Grow_string x = (fun x => growB x.1 x.2) x :=
  (RT_eq P tab (.fn s_slices_Grow_string) x).trans (X.ext_eq ((fun x => growB x.1 x.2) x))
theorem e_slices_Concat_string_L0 (x : Int × (List (List ByteArray)) × Int × Int) : M.slices_Concat_string_L0 x = (bif decide (x.2.2.2 < x.2.2.1) then ((ix x.2.1 x.2.2.2).bind fun e1 =>
      bif decide ((IntKind.i64.wrap (x.1 + (e1.length : Int))) < 0) then none else
      slices_Concat_string_L0 ((IntKind.i64.wrap (x.1 + (e1.length : Int))), x.2.1, x.2.2.1, (IntKind.i64.wrap (x.2.2.2 + 1)))) else
    some x.1) :=
  (RT_eq P tab (.lp s_slices_Concat_string L_slices_Concat_string_L0) x).trans (by kernel_rfl)
theorem e_slices_Concat_string_L1 (x : (List (List ByteArray)) × Int × Int × (List ByteArray)) : M.slices_Concat_string_L1 x = (bif decide (x.2.2.1 < x.2.1) then ((ix x.1 x.2.2.1).bind fun e1 =>
      (gd (x.2.2.2.length + e1.length ≤ grow)).bind fun _ =>
      slices_Concat_string_L1 (x.1, x.2.1, (IntKind.i64.wrap (x.2.2.1 + 1)), (x.2.2.2 ++ e1))) else
    some x.2.2.2) :=
  (RT_eq P tab (.lp s_slices_Concat_string L_slices_Concat_string_L1) x).trans (by kernel_rfl)
theorem e_slices_Concat_string (x : List (List ByteArray)) : M.slices_Concat_string x = ((slices_Concat_string_L0 (0, x, (x.length : Int), 0)).bind fun s1 =>
    (slices_Grow_string (s1, [])).bind fun r2 =>
    (slices_Concat_string_L1 (x, (x.length : Int), 0, r2)).bind fun s3 =>
    some s3) :=
  (RT_eq P tab (.fn s_slices_Concat_string) x).trans (by kernel_rfl)
theorem e_impl_also (x : (List ByteArray) × (List ByteArray)) : M.impl_also x = ((slices_Concat_string [x.1, x.2]).bind fun r1 =>
    some r1) :=
  (RT_eq P tab (.fn s_impl_also) x).trans (by kernel_rfl)
theorem e_impl_decNames_L0 (x : (List Dec) × Int × Int × (List ByteArray)) : M.impl_decNames_L0 x = (bif decide (x.2.2.1 < x.2.1) then ((ix x.1 x.2.2.1).bind fun e1 =>
      (gd (x.2.2.2.length + [e1.Name].length ≤ grow)).bind fun _ =>
      impl_decNames_L0 (x.1, x.2.1, (IntKind.i64.wrap (x.2.2.1 + 1)), (x.2.2.2 ++ [e1.Name]))) else
    some x.2.2.2) :=
  (RT_eq P tab (.lp s_impl_decNames L_impl_decNames_L0) x).trans (by kernel_rfl)
theorem e_impl_decNames (x : List Dec) : M.impl_decNames x = ((impl_decNames_L0 (x, (x.length : Int), 0, [])).bind fun s1 =>
    some s1) :=
  (RT_eq P tab (.fn s_impl_decNames) x).trans (by kernel_rfl)
theorem e_slices_Index_string_L0 (x : (List ByteArray) × ByteArray × Int × Int) : M.slices_Index_string_L0 x = (bif decide (x.2.2.2 < x.2.2.1) then ((ix x.1 x.2.2.2).bind fun e1 =>
      bif decide (x.2.1 = e1) then some (.inl x.2.2.2) else
      slices_Index_string_L0 (x.1, x.2.1, x.2.2.1, (IntKind.i64.wrap (x.2.2.2 + 1)))) else
    some (.inr ())) :=
  (RT_eq P tab (.lp s_slices_Index_string L_slices_Index_string_L0) x).trans (by kernel_rfl)
theorem e_slices_Index_string (x : (List ByteArray) × ByteArray) : M.slices_Index_string x = ((slices_Index_string_L0 (x.1, x.2, (x.1.length : Int), 0)).bind fun s1 =>
    Sum.elim (fun a2 =>
      some a2) (fun b3 =>
      some (-1)) s1) :=
  (RT_eq P tab (.fn s_slices_Index_string) x).trans (by kernel_rfl)
theorem e_slices_Contains_string (x : (List ByteArray) × ByteArray) : M.slices_Contains_string x = ((slices_Index_string (x.1, x.2)).bind fun r1 =>
    some (decide (0 ≤ r1))) :=
  (RT_eq P tab (.fn s_slices_Contains_string) x).trans (by kernel_rfl)
theorem e_impl_freeExp_L0 (x : (List ByteArray) × (List Exp) × Int × Int × (List ByteArray) × Exp) : M.impl_freeExp_L0 x = (bif decide (x.2.2.2.1 < x.2.2.1) then ((ix x.2.1 x.2.2.2.1).bind fun e1 =>
      (impl_freeExp (e1, x.1, x.2.2.2.2.1)).bind fun r2 =>
      impl_freeExp_L0 (x.1, x.2.1, x.2.2.1, (IntKind.i64.wrap (x.2.2.2.1 + 1)), r2, x.2.2.2.2.2)) else
    some (x.2.2.2.2.1, x.2.2.2.2.2)) :=
  (RT_eq P tab (.lp s_impl_freeExp L_impl_freeExp_L0) x).trans (by kernel_rfl)
theorem e_impl_freeExp_L1 (x : (List ByteArray) × (List Dec) × Int × Int × (List ByteArray) × Exp) : M.impl_freeExp_L1 x = (bif decide (x.2.2.2.1 < x.2.2.1) then ((ix x.2.1 x.2.2.2.1).bind fun e1 =>
      (impl_freeDec (e1, x.1, x.2.2.2.2.1)).bind fun r2 =>
      impl_freeExp_L1 (x.1, x.2.1, x.2.2.1, (IntKind.i64.wrap (x.2.2.2.1 + 1)), r2, x.2.2.2.2.2)) else
    some (x.2.2.2.2.1, x.2.2.2.2.2)) :=
  (RT_eq P tab (.lp s_impl_freeExp L_impl_freeExp_L1) x).trans (by kernel_rfl)
theorem e_impl_freeExp_L2 (x : (List ByteArray) × (List Alt) × Int × Int × (List ByteArray)) : M.impl_freeExp_L2 x = (bif decide (x.2.2.2.1 < x.2.2.1) then ((ix x.2.1 x.2.2.2.1).bind fun e1 =>
      (impl_also (x.1, e1.Vars)).bind fun r2 =>
      (impl_freeExp (e1.E, r2, x.2.2.2.2)).bind fun r3 =>
      impl_freeExp_L2 (x.1, x.2.1, x.2.2.1, (IntKind.i64.wrap (x.2.2.2.1 + 1)), r3)) else
    some x.2.2.2.2) :=
  (RT_eq P tab (.lp s_impl_freeExp L_impl_freeExp_L2) x).trans (by kernel_rfl)
theorem e_impl_freeExp (x : Exp × (List ByteArray) × (List ByteArray)) : M.impl_freeExp x = ((bif decide (x.1.K = 1) then ((slices_Contains_string (x.2.1, x.1.S)).bind fun r1 =>
        bif (!r1) then ((gd (x.2.2.length + [x.1.S].length ≤ grow)).bind fun _ =>
          some (x.2.1, (x.2.2 ++ [x.1.S]), x.1)) else
        some (x.2.1, x.2.2, x.1)) else
      bif decide (x.1.K = 5) then ((impl_also (x.2.1, [x.1.S])).bind fun r2 =>
        some (r2, x.2.2, x.1)) else
      bif decide (x.1.K = 6) then ((impl_decNames x.1.Decs).bind fun r3 =>
        (impl_also (x.2.1, r3)).bind fun r4 =>
        some (r4, x.2.2, x.1)) else
      some (x.2.1, x.2.2, x.1)).bind fun s5 =>
    (impl_freeExp_L0 (s5.1, s5.2.2.L, (s5.2.2.L.length : Int), 0, s5.2.1, s5.2.2)).bind fun s6 =>
    (impl_freeExp_L1 (s5.1, s6.2.Decs, (s6.2.Decs.length : Int), 0, s6.1, s6.2)).bind fun s7 =>
    (impl_freeExp_L2 (s5.1, s7.2.Alts, (s7.2.Alts.length : Int), 0, s7.1)).bind fun s8 =>
    some s8) :=
  (RT_eq P tab (.fn s_impl_freeExp) x).trans (by kernel_rfl)
theorem e_impl_freeDec_L0 (x : (List ByteArray) × (List Dec) × Int × Int × (List ByteArray)) : M.impl_freeDec_L0 x = (bif decide (x.2.2.2.1 < x.2.2.1) then ((ix x.2.1 x.2.2.2.1).bind fun e1 =>
      (impl_freeDec (e1, x.1, x.2.2.2.2)).bind fun r2 =>
      impl_freeDec_L0 (x.1, x.2.1, x.2.2.1, (IntKind.i64.wrap (x.2.2.2.1 + 1)), r2)) else
    some x.2.2.2.2) :=
  (RT_eq P tab (.lp s_impl_freeDec L_impl_freeDec_L0) x).trans (by kernel_rfl)
theorem e_impl_freeDec (x : Dec × (List ByteArray) × (List ByteArray)) : M.impl_freeDec x = ((impl_also (x.2.1, x.1.Pars)).bind fun r1 =>
    (impl_decNames x.1.Where).bind fun r2 =>
    (impl_also (r1, r2)).bind fun r3 =>
    (impl_freeExp (x.1.E, r3, x.2.2)).bind fun r4 =>
    (impl_freeDec_L0 (r3, x.1.Where, (x.1.Where.length : Int), 0, r4)).bind fun s5 =>
    some s5) :=
  (RT_eq P tab (.fn s_impl_freeDec) x).trans (by kernel_rfl)
theorem e_impl_sorted (x : List ByteArray) : M.impl_sorted x = (fun x => some (sortedB x)) x :=
  (RT_eq P tab (.fn s_impl_sorted) x).trans (X.ext_eq ((fun x => some (sortedB x)) x))
theorem e_impl_FreeOfDec (x : Dec) : M.impl_FreeOfDec x = ((impl_freeDec (x, [], [])).bind fun r1 =>
    (impl_sorted r1).bind fun r2 =>
    some r2) :=
  (RT_eq P tab (.fn s_impl_FreeOfDec) x).trans (by kernel_rfl)
theorem e_impl_Needs_1 (x : ByteArray × (List Dec)) : M.impl_Needs_1 x = ((impl_decAt (x.2, x.1)).bind fun r1 =>
    some (decide (r1 < 0), x.2)) :=
  (RT_eq P tab (.fn s_impl_Needs_1) x).trans (by kernel_rfl)
theorem e_slices_IndexFunc_stringV_at_Needs_1_L0 (x : Int × Int × (List ByteArray) × (List Dec)) : M.slices_IndexFunc_stringV_at_Needs_1_L0 x = (bif decide (x.2.1 < x.1) then ((gd (0 ≤ x.2.1)).bind fun _ =>
      (gd (x.2.1 < (x.2.2.1.length : Int))).bind fun _ =>
      (x.2.2.1[x.2.1.toNat]?).bind fun e1 =>
      (impl_Needs_1 (e1, x.2.2.2)).bind fun r2 =>
      bif r2.1 then some (.inl (x.2.1, r2.2)) else
      slices_IndexFunc_stringV_at_Needs_1_L0 (x.1, (IntKind.i64.wrap (x.2.1 + 1)), x.2.2.1, r2.2)) else
    some (.inr x.2.2.2)) :=
  (RT_eq P tab (.lp s_slices_IndexFunc_stringV_at_Needs_1 L_slices_IndexFunc_stringV_at_Needs_1_L0) x).trans (by kernel_rfl)
theorem e_slices_IndexFunc_stringV_at_Needs_1 (x : (List ByteArray) × (List Dec)) : M.slices_IndexFunc_stringV_at_Needs_1 x = ((slices_IndexFunc_stringV_at_Needs_1_L0 ((x.1.length : Int), 0, x.1, x.2)).bind fun s1 =>
    Sum.elim (fun a2 =>
      some (a2.1, a2.2)) (fun b3 =>
      some ((-1), b3)) s1) :=
  (RT_eq P tab (.fn s_slices_IndexFunc_stringV_at_Needs_1) x).trans (by kernel_rfl)
theorem e_slices_DeleteFunc_string_at_Needs_1_L0 (x : Int × Int × (List ByteArray) × (List Dec)) : M.slices_DeleteFunc_string_at_Needs_1_L0 x = (bif decide (x.2.1 < (x.2.2.1.length : Int)) then ((gd (0 ≤ x.2.1)).bind fun _ =>
      (gd (x.2.1 < (x.2.2.1.length : Int))).bind fun _ =>
      (x.2.2.1[x.2.1.toNat]?).bind fun e1 =>
      (impl_Needs_1 (e1, x.2.2.2)).bind fun r2 =>
      bif (!r2.1) then ((gd (0 ≤ x.1)).bind fun _ =>
        (gd (x.1 < (x.2.2.1.length : Int))).bind fun _ =>
        slices_DeleteFunc_string_at_Needs_1_L0 ((IntKind.i64.wrap (x.1 + 1)), (IntKind.i64.wrap (x.2.1 + 1)), (x.2.2.1.set x.1.toNat e1), r2.2)) else
      slices_DeleteFunc_string_at_Needs_1_L0 (x.1, (IntKind.i64.wrap (x.2.1 + 1)), x.2.2.1, r2.2)) else
    some (x.1, x.2.2.1, x.2.2.2)) :=
  (RT_eq P tab (.lp s_slices_DeleteFunc_string_at_Needs_1 L_slices_DeleteFunc_string_at_Needs_1_L0) x).trans (by kernel_rfl)
theorem e_slices_DeleteFunc_string_at_Needs_1 (x : (List ByteArray) × (List Dec)) : M.slices_DeleteFunc_string_at_Needs_1 x = ((slices_IndexFunc_stringV_at_Needs_1 (x.1, x.2)).bind fun r1 =>
    bif decide (r1.1 = (-1)) then some (r1.2, x.1) else
    (slices_DeleteFunc_string_at_Needs_1_L0 (r1.1, (IntKind.i64.wrap (r1.1 + 1)), x.1, r1.2)).bind fun s2 =>
    (gd (0 ≤ s2.1)).bind fun _ =>
    (gd (s2.1 ≤ (s2.2.1.length : Int))).bind fun _ =>
    (gd (0 ≤ s2.1)).bind fun _ =>
    (gd (s2.1 ≤ ((s2.2.1.take s2.1.toNat ++ List.replicate (s2.2.1.length - s2.1.toNat) (⟨⟨[]⟩⟩ : ByteArray)).length : Int))).bind fun _ =>
    some (s2.2.2, ((s2.2.1.take s2.1.toNat ++ List.replicate (s2.2.1.length - s2.1.toNat) (⟨⟨[]⟩⟩ : ByteArray)).take s2.1.toNat))) :=
  (RT_eq P tab (.fn s_slices_DeleteFunc_string_at_Needs_1) x).trans (by kernel_rfl)
theorem e_impl_Needs (x : (List Dec) × ByteArray) : M.impl_Needs x = ((impl_decAt (x.1, x.2)).bind fun r1 =>
    bif decide (r1 < 0) then some [] else
    (ix x.1 r1).bind fun e2 =>
    (impl_FreeOfDec e2).bind fun r3 =>
    (slices_DeleteFunc_string_at_Needs_1 (r3, x.1)).bind fun r4 =>
    some r4.2) :=
  (RT_eq P tab (.fn s_impl_Needs) x).trans (by kernel_rfl)
theorem e_impl_reached_L0 (x : (List Dec) × Int × (List ByteArray)) : M.impl_reached_L0 x = (bif decide (x.2.1 < (x.2.2.length : Int)) then ((gd (0 ≤ x.2.1)).bind fun _ =>
      (gd (x.2.1 < (x.2.2.length : Int))).bind fun _ =>
      (x.2.2[x.2.1.toNat]?).bind fun e1 =>
      (impl_Needs (x.1, e1)).bind fun r2 =>
      (impl_reached_L1 ((r2.length : Int), 0, x.2.2, r2)).bind fun s3 =>
      impl_reached_L0 (x.1, (IntKind.i64.wrap (x.2.1 + 1)), s3)) else
    some x.2.2) :=
  (RT_eq P tab (.lp s_impl_reached L_impl_reached_L0) x).trans (by kernel_rfl)
theorem e_impl_reached_L1 (x : Int × Int × (List ByteArray) × (List ByteArray)) : M.impl_reached_L1 x = (bif decide (x.2.1 < x.1) then ((gd (0 ≤ x.2.1)).bind fun _ =>
      (gd (x.2.1 < (x.2.2.2.length : Int))).bind fun _ =>
      (x.2.2.2[x.2.1.toNat]?).bind fun e1 =>
      (slices_Contains_stringV (e1, x.2.2.1)).bind fun r2 =>
      bif (!r2) then ((gd (x.2.2.1.length + [e1].length ≤ grow)).bind fun _ =>
        impl_reached_L1 (x.1, (IntKind.i64.wrap (x.2.1 + 1)), (x.2.2.1 ++ [e1]), x.2.2.2)) else
      impl_reached_L1 (x.1, (IntKind.i64.wrap (x.2.1 + 1)), x.2.2.1, x.2.2.2)) else
    some x.2.2.1) :=
  (RT_eq P tab (.lp s_impl_reached L_impl_reached_L1) x).trans (by kernel_rfl)
theorem e_impl_reached (x : (List Dec) × ByteArray) : M.impl_reached x = ((impl_Needs (x.1, x.2)).bind fun r1 =>
    (impl_reached_L0 (x.1, 0, r1)).bind fun s2 =>
    some s2) :=
  (RT_eq P tab (.fn s_impl_reached) x).trans (by kernel_rfl)
theorem e_impl_Reaches (x : (List Dec) × ByteArray × ByteArray) : M.impl_Reaches x = ((impl_reached (x.1, x.2.1)).bind fun r1 =>
    (slices_Contains_string (r1, x.2.2)).bind fun r2 =>
    some r2) :=
  (RT_eq P tab (.fn s_impl_Reaches) x).trans (by kernel_rfl)
theorem e_slices_Compact_string (x : List ByteArray) : M.slices_Compact_string x = (fun x => some (compactB x)) x :=
  (RT_eq P tab (.fn s_slices_Compact_string) x).trans (X.ext_eq ((fun x => some (compactB x)) x))
theorem e_impl_together_L0 (x : (List Dec) × ByteArray × (List Dec) × Int × Int × (List ByteArray)) : M.impl_together_L0 x = (bif decide (x.2.2.2.2.1 < x.2.2.2.1) then ((ix x.2.2.1 x.2.2.2.2.1).bind fun e1 =>
      (bif decide (e1.Name = x.2.1) then some (true, x.2.2.2.2.2, e1) else
        (impl_Reaches (x.1, x.2.1, e1.Name)).bind fun r2 =>
        bif r2 then ((impl_Reaches (x.1, e1.Name, x.2.1)).bind fun r3 =>
          some (r3, x.2.2.2.2.2, e1)) else
        some (false, x.2.2.2.2.2, e1)).bind fun s4 =>
      bif s4.1 then ((gd (s4.2.1.length + [s4.2.2.Name].length ≤ grow)).bind fun _ =>
        impl_together_L0 (x.1, x.2.1, x.2.2.1, x.2.2.2.1, (IntKind.i64.wrap (x.2.2.2.2.1 + 1)), (s4.2.1 ++ [s4.2.2.Name]))) else
      impl_together_L0 (x.1, x.2.1, x.2.2.1, x.2.2.2.1, (IntKind.i64.wrap (x.2.2.2.2.1 + 1)), s4.2.1)) else
    some x.2.2.2.2.2) :=
  (RT_eq P tab (.lp s_impl_together L_impl_together_L0) x).trans (by kernel_rfl)
theorem e_impl_together (x : (List Dec) × ByteArray) : M.impl_together x = ((impl_together_L0 (x.1, x.2, x.1, (x.1.length : Int), 0, [])).bind fun s1 =>
    (slices_Compact_string s1).bind fun r2 =>
    some r2) :=
  (RT_eq P tab (.fn s_impl_together) x).trans (by kernel_rfl)
theorem e_impl_Groups_1_1 (x : ByteArray × (List ByteArray) × (List ByteArray)) : M.impl_Groups_1_1 x = ((slices_Contains_string (x.2.1, x.1)).bind fun r1 =>
    bif (!r1) then ((slices_Contains_stringV (x.1, x.2.2)).bind fun r2 =>
      some ((!r2), x.2.1)) else
    some (false, x.2.1)) :=
  (RT_eq P tab (.fn s_impl_Groups_1_1) x).trans (by kernel_rfl)
theorem e_slices_IndexFunc_string_at_Groups_1_1_L0 (x : (List ByteArray) × Int × Int × (List ByteArray) × (List ByteArray)) : M.slices_IndexFunc_string_at_Groups_1_1_L0 x = (bif decide (x.2.2.1 < x.2.1) then ((ix x.1 x.2.2.1).bind fun e1 =>
      (impl_Groups_1_1 (e1, x.2.2.2.1, x.2.2.2.2)).bind fun r2 =>
      bif r2.1 then some (.inl (x.2.2.1, r2.2)) else
      slices_IndexFunc_string_at_Groups_1_1_L0 (x.1, x.2.1, (IntKind.i64.wrap (x.2.2.1 + 1)), r2.2, x.2.2.2.2)) else
    some (.inr x.2.2.2.1)) :=
  (RT_eq P tab (.lp s_slices_IndexFunc_string_at_Groups_1_1 L_slices_IndexFunc_string_at_Groups_1_1_L0) x).trans (by kernel_rfl)
theorem e_slices_IndexFunc_string_at_Groups_1_1 (x : (List ByteArray) × (List ByteArray) × (List ByteArray)) : M.slices_IndexFunc_string_at_Groups_1_1 x = ((slices_IndexFunc_string_at_Groups_1_1_L0 (x.1, (x.1.length : Int), 0, x.2.1, x.2.2)).bind fun s1 =>
    Sum.elim (fun a2 =>
      some (a2.1, a2.2)) (fun b3 =>
      some ((-1), b3)) s1) :=
  (RT_eq P tab (.fn s_slices_IndexFunc_string_at_Groups_1_1) x).trans (by kernel_rfl)
theorem e_slices_ContainsFunc_string_at_Groups_1_1 (x : (List ByteArray) × (List ByteArray) × (List ByteArray)) : M.slices_ContainsFunc_string_at_Groups_1_1 x = ((slices_IndexFunc_string_at_Groups_1_1 (x.1, x.2.1, x.2.2)).bind fun r1 =>
    some (decide (0 ≤ r1.1), r1.2)) :=
  (RT_eq P tab (.fn s_slices_ContainsFunc_string_at_Groups_1_1) x).trans (by kernel_rfl)
theorem e_impl_Groups_1 (x : ByteArray × (List Dec) × (List ByteArray) × (List ByteArray)) : M.impl_Groups_1 x = ((impl_Needs (x.2.1, x.1)).bind fun r1 =>
    (slices_ContainsFunc_string_at_Groups_1_1 (r1, x.2.2.1, x.2.2.2)).bind fun r2 =>
    some (r2.1, x.2.1, r2.2)) :=
  (RT_eq P tab (.fn s_impl_Groups_1) x).trans (by kernel_rfl)
theorem e_slices_IndexFunc_string_at_Groups_1_L0 (x : (List ByteArray) × Int × Int × (List Dec) × (List ByteArray) × (List ByteArray)) : M.slices_IndexFunc_string_at_Groups_1_L0 x = (bif decide (x.2.2.1 < x.2.1) then ((ix x.1 x.2.2.1).bind fun e1 =>
      (impl_Groups_1 (e1, x.2.2.2.1, x.2.2.2.2.1, x.2.2.2.2.2)).bind fun r2 =>
      bif r2.1 then some (.inl (x.2.2.1, r2.2.1, r2.2.2)) else
      slices_IndexFunc_string_at_Groups_1_L0 (x.1, x.2.1, (IntKind.i64.wrap (x.2.2.1 + 1)), r2.2.1, r2.2.2, x.2.2.2.2.2)) else
    some (.inr (x.2.2.2.1, x.2.2.2.2.1))) :=
  (RT_eq P tab (.lp s_slices_IndexFunc_string_at_Groups_1 L_slices_IndexFunc_string_at_Groups_1_L0) x).trans (by kernel_rfl)
theorem e_slices_IndexFunc_string_at_Groups_1 (x : (List ByteArray) × (List Dec) × (List ByteArray) × (List ByteArray)) : M.slices_IndexFunc_string_at_Groups_1 x = ((slices_IndexFunc_string_at_Groups_1_L0 (x.1, (x.1.length : Int), 0, x.2.1, x.2.2.1, x.2.2.2)).bind fun s1 =>
    Sum.elim (fun a2 =>
      some (a2.1, a2.2.1, a2.2.2)) (fun b3 =>
      some ((-1), b3.1, b3.2)) s1) :=
  (RT_eq P tab (.fn s_slices_IndexFunc_string_at_Groups_1) x).trans (by kernel_rfl)
theorem e_slices_ContainsFunc_string_at_Groups_1 (x : (List ByteArray) × (List Dec) × (List ByteArray) × (List ByteArray)) : M.slices_ContainsFunc_string_at_Groups_1 x = ((slices_IndexFunc_string_at_Groups_1 (x.1, x.2.1, x.2.2.1, x.2.2.2)).bind fun r1 =>
    some (decide (0 ≤ r1.1), r1.2.1, r1.2.2)) :=
  (RT_eq P tab (.fn s_slices_ContainsFunc_string_at_Groups_1) x).trans (by kernel_rfl)
theorem e_impl_Groups_L0 (x : (List Dec) × (List (List ByteArray)) × (List ByteArray)) : M.impl_Groups_L0 x = ((impl_Groups_L1 ([], x.1, (x.1.length : Int), 0, x.1, x.2.1, x.2.2)).bind fun s1 =>
    bif decide ((s1.1.length : Int) = 0) then some s1.2.2.1 else
    (gd (s1.2.2.1.length + [s1.1].length ≤ grow)).bind fun _ =>
    (gd (s1.2.2.2.length + s1.1.length ≤ grow)).bind fun _ =>
    impl_Groups_L0 (s1.2.1, (s1.2.2.1 ++ [s1.1]), (s1.2.2.2 ++ s1.1))) :=
  (RT_eq P tab (.lp s_impl_Groups L_impl_Groups_L0) x).trans (by kernel_rfl)
theorem e_impl_Groups_L1 (x : (List ByteArray) × (List Dec) × Int × Int × (List Dec) × (List (List ByteArray)) × (List ByteArray)) : M.impl_Groups_L1 x = (bif decide (x.2.2.2.1 < x.2.2.1) then ((ix x.2.1 x.2.2.2.1).bind fun e1 =>
      (slices_Contains_stringV (e1.Name, x.2.2.2.2.2.2)).bind fun r2 =>
      bif r2 then impl_Groups_L1 (x.1, x.2.1, x.2.2.1, (IntKind.i64.wrap (x.2.2.2.1 + 1)), x.2.2.2.2.1, x.2.2.2.2.2.1, x.2.2.2.2.2.2) else
      (impl_together (x.2.2.2.2.1, e1.Name)).bind fun r3 =>
      (slices_ContainsFunc_string_at_Groups_1 (r3, x.2.2.2.2.1, r3, x.2.2.2.2.2.2)).bind fun r4 =>
      bif (!r4.1) then some (r4.2.2, r4.2.1, x.2.2.2.2.2.1, x.2.2.2.2.2.2) else
      impl_Groups_L1 (x.1, x.2.1, x.2.2.1, (IntKind.i64.wrap (x.2.2.2.1 + 1)), r4.2.1, x.2.2.2.2.2.1, x.2.2.2.2.2.2)) else
    some (x.1, x.2.2.2.2.1, x.2.2.2.2.2.1, x.2.2.2.2.2.2)) :=
  (RT_eq P tab (.lp s_impl_Groups L_impl_Groups_L1) x).trans (by kernel_rfl)
theorem e_impl_Groups (x : List Dec) : M.impl_Groups x = ((impl_Groups_L0 (x, [], [])).bind fun s1 =>
    some s1) :=
  (RT_eq P tab (.fn s_impl_Groups) x).trans (by kernel_rfl)
theorem e_spec_DrawNeeds (x : List Int) : M.spec_DrawNeeds x = ((spec_l1New x).bind fun r1 =>
    (spec_l8Decs r1).bind fun r2 =>
    (spec_l1Str ([(⟨⟨[102]⟩⟩ : ByteArray), (⟨⟨[103]⟩⟩ : ByteArray), (⟨⟨[109, 97, 105, 110]⟩⟩ : ByteArray), (⟨⟨[120]⟩⟩ : ByteArray), (⟨⟨[113]⟩⟩ : ByteArray)], r2.2)).bind fun r3 =>
    some (r2.1, r3.1)) :=
  (RT_eq P tab (.fn s_spec_DrawNeeds) x).trans (by kernel_rfl)
theorem e_spec_DrawReaches (x : List Int) : M.spec_DrawReaches x = ((spec_DrawNeeds x).bind fun r1 =>
    (spec_l1New x).bind fun r2 =>
    (spec_l1Str ([(⟨⟨[102]⟩⟩ : ByteArray), (⟨⟨[103]⟩⟩ : ByteArray), (⟨⟨[104]⟩⟩ : ByteArray), (⟨⟨[109, 97, 105, 110]⟩⟩ : ByteArray), (⟨⟨[120]⟩⟩ : ByteArray)], r2)).bind fun r3 =>
    some (r1.1, r1.2, r3.1)) :=
  (RT_eq P tab (.fn s_spec_DrawReaches) x).trans (by kernel_rfl)
theorem e_spec_l8Make (x : List Dec) : M.spec_l8Make x = (fun x => l8M x) x :=
  (RT_eq P tab (.fn s_spec_l8Make) x).trans (X.ext_eq ((fun x => l8M x) x))
theorem e_spec_l8With_L0 (x : Int × Int × spec_l8Web × (List Bool)) : M.spec_l8With_L0 x = (bif decide (x.2.1 < (x.2.2.1.names.length : Int)) then (bif decide (x.2.1 = x.1) then ((gd (0 ≤ x.2.1)).bind fun _ =>
        (gd (x.2.1 < (x.2.2.2.length : Int))).bind fun _ =>
        spec_l8With_L0 (x.1, (IntKind.i64.wrap (x.2.1 + 1)), x.2.2.1, (x.2.2.2.set x.2.1.toNat true))) else
      (ix x.2.2.1.needs x.1).bind fun e1 =>
      (ix e1 x.2.1).bind fun e2 =>
      bif e2 then ((ix x.2.2.1.needs x.2.1).bind fun e3 =>
        (ix e3 x.1).bind fun e4 =>
        (gd (0 ≤ x.2.1)).bind fun _ =>
        (gd (x.2.1 < (x.2.2.2.length : Int))).bind fun _ =>
        spec_l8With_L0 (x.1, (IntKind.i64.wrap (x.2.1 + 1)), x.2.2.1, (x.2.2.2.set x.2.1.toNat e4))) else
      (gd (0 ≤ x.2.1)).bind fun _ =>
      (gd (x.2.1 < (x.2.2.2.length : Int))).bind fun _ =>
      spec_l8With_L0 (x.1, (IntKind.i64.wrap (x.2.1 + 1)), x.2.2.1, (x.2.2.2.set x.2.1.toNat false))) else
    some x.2.2.2) :=
  (RT_eq P tab (.lp s_spec_l8With L_spec_l8With_L0) x).trans (by kernel_rfl)
theorem e_spec_l8With (x : spec_l8Web × Int) : M.spec_l8With x = ((gd (0 ≤ (x.1.names.length : Int))).bind fun _ =>
    (gd ((x.1.names.length : Int) ≤ 1099511627776)).bind fun _ =>
    (spec_l8With_L0 (x.2, 0, x.1, (List.replicate ((x.1.names.length : Int).toNat) false))).bind fun s1 =>
    some s1) :=
  (RT_eq P tab (.fn s_spec_l8With) x).trans (by kernel_rfl)
theorem e_spec_l8Free_L0 (x : (List Bool) × Int × (List Bool) × spec_l8Web) : M.spec_l8Free_L0 x = (bif decide (x.2.1 < (x.2.2.2.names.length : Int)) then ((spec_l8Free_L1 (x.1, x.2.1, 0, x.2.2.1, x.2.2.2)).bind fun s1 =>
      Sum.elim (fun a2 =>
        some (.inl a2)) (fun b3 =>
        spec_l8Free_L0 (x.1, (IntKind.i64.wrap (x.2.1 + 1)), x.2.2.1, b3)) s1) else
    some (.inr ())) :=
  (RT_eq P tab (.lp s_spec_l8Free L_spec_l8Free_L0) x).trans (by kernel_rfl)
theorem e_spec_l8Free_L1 (x : (List Bool) × Int × Int × (List Bool) × spec_l8Web) : M.spec_l8Free_L1 x = (bif decide (x.2.2.1 < (x.2.2.2.2.names.length : Int)) then ((ix x.1 x.2.1).bind fun e1 =>
      bif e1 then ((ix x.2.2.2.2.needs x.2.1).bind fun e2 =>
        (ix e2 x.2.2.1).bind fun e3 =>
        bif e3 then ((ix x.1 x.2.2.1).bind fun e4 =>
          bif (!e4) then ((gd (0 ≤ x.2.2.1)).bind fun _ =>
            (gd (x.2.2.1 < (x.2.2.2.1.length : Int))).bind fun _ =>
            (x.2.2.2.1[x.2.2.1.toNat]?).bind fun e5 =>
            bif (!e5) then some (.inl false) else
            spec_l8Free_L1 (x.1, x.2.1, (IntKind.i64.wrap (x.2.2.1 + 1)), x.2.2.2.1, x.2.2.2.2)) else
          spec_l8Free_L1 (x.1, x.2.1, (IntKind.i64.wrap (x.2.2.1 + 1)), x.2.2.2.1, x.2.2.2.2)) else
        spec_l8Free_L1 (x.1, x.2.1, (IntKind.i64.wrap (x.2.2.1 + 1)), x.2.2.2.1, x.2.2.2.2)) else
      some (.inr x.2.2.2.2)) else
    some (.inr x.2.2.2.2)) :=
  (RT_eq P tab (.lp s_spec_l8Free L_spec_l8Free_L1) x).trans (by kernel_rfl)
theorem e_spec_l8Free (x : spec_l8Web × (List Bool) × (List Bool)) : M.spec_l8Free x = ((spec_l8Free_L0 (x.2.1, 0, x.2.2, x.1)).bind fun s1 =>
    Sum.elim (fun a2 =>
      some a2) (fun b3 =>
      some true) s1) :=
  (RT_eq P tab (.fn s_spec_l8Free) x).trans (by kernel_rfl)
theorem e_spec_Groups_L0 (x : Bool × (List (List ByteArray)) × spec_l8Web × (List Bool)) : M.spec_Groups_L0 x = (bif x.1 then ((spec_Groups_L1 (false, 0, x.2.1, x.2.2.1, x.2.2.2)).bind fun s1 =>
      spec_Groups_L0 (s1.1, s1.2.1, s1.2.2.1, s1.2.2.2)) else
    some x.2.1) :=
  (RT_eq P tab (.lp s_spec_Groups L_spec_Groups_L0) x).trans (by kernel_rfl)
theorem e_spec_Groups_L1 (x : Bool × Int × (List (List ByteArray)) × spec_l8Web × (List Bool)) : M.spec_Groups_L1 x = (bif decide (x.2.1 < (x.2.2.2.1.names.length : Int)) then (bif (!x.1) then ((spec_l8With (x.2.2.2.1, x.2.1)).bind fun r1 =>
        (gd (0 ≤ x.2.1)).bind fun _ =>
        (gd (x.2.1 < (x.2.2.2.2.length : Int))).bind fun _ =>
        (x.2.2.2.2[x.2.1.toNat]?).bind fun e2 =>
        bif e2 then spec_Groups_L1 (x.1, (IntKind.i64.wrap (x.2.1 + 1)), x.2.2.1, x.2.2.2.1, x.2.2.2.2) else
        (spec_l8Free (x.2.2.2.1, r1, x.2.2.2.2)).bind fun r3 =>
        bif (!r3) then spec_Groups_L1 (x.1, (IntKind.i64.wrap (x.2.1 + 1)), x.2.2.1, x.2.2.2.1, x.2.2.2.2) else
        (spec_Groups_L2 (r1, 0, x.2.2.1, x.2.2.2.1, x.2.2.2.2, [])).bind fun s4 =>
        (gd (s4.1.length + [s4.2.2.2].length ≤ grow)).bind fun _ =>
        spec_Groups_L1 (true, (IntKind.i64.wrap (x.2.1 + 1)), (s4.1 ++ [s4.2.2.2]), s4.2.1, s4.2.2.1)) else
      some (x.1, x.2.2.1, x.2.2.2.1, x.2.2.2.2)) else
    some (x.1, x.2.2.1, x.2.2.2.1, x.2.2.2.2)) :=
  (RT_eq P tab (.lp s_spec_Groups L_spec_Groups_L1) x).trans (by kernel_rfl)
theorem e_spec_Groups_L2 (x : (List Bool) × Int × (List (List ByteArray)) × spec_l8Web × (List Bool) × (List ByteArray)) : M.spec_Groups_L2 x = (bif decide (x.2.1 < (x.2.2.2.1.names.length : Int)) then ((ix x.1 x.2.1).bind fun e1 =>
      bif e1 then ((ix x.2.2.2.1.names x.2.1).bind fun e2 =>
        (gd (x.2.2.2.2.2.length + [e2].length ≤ grow)).bind fun _ =>
        (gd (0 ≤ x.2.1)).bind fun _ =>
        (gd (x.2.1 < (x.2.2.2.2.1.length : Int))).bind fun _ =>
        spec_Groups_L2 (x.1, (IntKind.i64.wrap (x.2.1 + 1)), x.2.2.1, x.2.2.2.1, (x.2.2.2.2.1.set x.2.1.toNat true), (x.2.2.2.2.2 ++ [e2]))) else
      spec_Groups_L2 (x.1, (IntKind.i64.wrap (x.2.1 + 1)), x.2.2.1, x.2.2.2.1, x.2.2.2.2.1, x.2.2.2.2.2)) else
    some (x.2.2.1, x.2.2.2.1, x.2.2.2.2.1, x.2.2.2.2.2)) :=
  (RT_eq P tab (.lp s_spec_Groups L_spec_Groups_L2) x).trans (by kernel_rfl)
theorem e_spec_Groups (x : List Dec) : M.spec_Groups x = ((spec_l8Make x).bind fun r1 =>
    (gd (0 ≤ (r1.names.length : Int))).bind fun _ =>
    (gd ((r1.names.length : Int) ≤ 1099511627776)).bind fun _ =>
    (spec_Groups_L0 (true, [], r1, (List.replicate ((r1.names.length : Int).toNat) false))).bind fun s2 =>
    some s2) :=
  (RT_eq P tab (.fn s_spec_Groups) x).trans (by kernel_rfl)
theorem e_laws_sameTexts_L0 (x : (List ByteArray) × (List ByteArray) × Int) : M.laws_sameTexts_L0 x = (bif decide (x.2.2 < (x.1.length : Int)) then ((ix x.1 x.2.2).bind fun e1 =>
      (ix x.2.1 x.2.2).bind fun e2 =>
      bif (!decide (e1 = e2)) then some (.inl false) else
      laws_sameTexts_L0 (x.1, x.2.1, (IntKind.i64.wrap (x.2.2 + 1)))) else
    some (.inr ())) :=
  (RT_eq P tab (.lp s_laws_sameTexts L_laws_sameTexts_L0) x).trans (by kernel_rfl)
theorem e_laws_sameTexts (x : (List ByteArray) × (List ByteArray)) : M.laws_sameTexts x = (bif (!decide ((x.1.length : Int) = (x.2.length : Int))) then some false else
    (laws_sameTexts_L0 (x.1, x.2, 0)).bind fun s1 =>
    Sum.elim (fun a2 =>
      some a2) (fun b3 =>
      some true) s1) :=
  (RT_eq P tab (.fn s_laws_sameTexts) x).trans (by kernel_rfl)
theorem e_laws_sameGroups_L0 (x : (List (List ByteArray)) × (List (List ByteArray)) × Int) : M.laws_sameGroups_L0 x = (bif decide (x.2.2 < (x.1.length : Int)) then ((ix x.1 x.2.2).bind fun e1 =>
      (ix x.2.1 x.2.2).bind fun e2 =>
      (laws_sameTexts (e1, e2)).bind fun r3 =>
      bif (!r3) then some (.inl false) else
      laws_sameGroups_L0 (x.1, x.2.1, (IntKind.i64.wrap (x.2.2 + 1)))) else
    some (.inr ())) :=
  (RT_eq P tab (.lp s_laws_sameGroups L_laws_sameGroups_L0) x).trans (by kernel_rfl)
theorem e_laws_sameGroups (x : (List (List ByteArray)) × (List (List ByteArray))) : M.laws_sameGroups x = (bif (!decide ((x.1.length : Int) = (x.2.length : Int))) then some false else
    (laws_sameGroups_L0 (x.1, x.2, 0)).bind fun s1 =>
    Sum.elim (fun a2 =>
      some a2) (fun b3 =>
      some true) s1) :=
  (RT_eq P tab (.fn s_laws_sameGroups) x).trans (by kernel_rfl)
theorem e_spec_l8At_L0 (x : (List Dec) × ByteArray × Int) : M.spec_l8At_L0 x = (bif decide (x.2.2 < (x.1.length : Int)) then ((ix x.1 x.2.2).bind fun e1 =>
      bif decide (e1.Name = x.2.1) then some (.inl x.2.2) else
      spec_l8At_L0 (x.1, x.2.1, (IntKind.i64.wrap (x.2.2 + 1)))) else
    some (.inr ())) :=
  (RT_eq P tab (.lp s_spec_l8At L_spec_l8At_L0) x).trans (by kernel_rfl)
theorem e_spec_l8At (x : (List Dec) × ByteArray) : M.spec_l8At x = ((spec_l8At_L0 (x.1, x.2, 0)).bind fun s1 =>
    Sum.elim (fun a2 =>
      some a2) (fun b3 =>
      some (-1)) s1) :=
  (RT_eq P tab (.fn s_spec_l8At) x).trans (by kernel_rfl)
theorem e_spec_l6Put_L0 (x : ByteArray × Int × (List ByteArray)) : M.spec_l6Put_L0 x = (bif decide (0 < x.2.1) then ((gd (0 ≤ (IntKind.i64.wrap (x.2.1 - 1)))).bind fun _ =>
      (gd ((IntKind.i64.wrap (x.2.1 - 1)) < (x.2.2.length : Int))).bind fun _ =>
      (x.2.2[(IntKind.i64.wrap (x.2.1 - 1)).toNat]?).bind fun e1 =>
      bif (!(Op.bytesLess e1.toList x.1.toList || decide (e1 = x.1))) then ((gd (0 ≤ (IntKind.i64.wrap (x.2.1 - 1)))).bind fun _ =>
        (gd ((IntKind.i64.wrap (x.2.1 - 1)) < (x.2.2.length : Int))).bind fun _ =>
        (x.2.2[(IntKind.i64.wrap (x.2.1 - 1)).toNat]?).bind fun e2 =>
        (gd (0 ≤ x.2.1)).bind fun _ =>
        (gd (x.2.1 < (x.2.2.length : Int))).bind fun _ =>
        spec_l6Put_L0 (x.1, (IntKind.i64.wrap (x.2.1 - 1)), (x.2.2.set x.2.1.toNat e2))) else
      some (x.2.1, x.2.2)) else
    some (x.2.1, x.2.2)) :=
  (RT_eq P tab (.lp s_spec_l6Put L_spec_l6Put_L0) x).trans (by kernel_rfl)
theorem e_spec_l6Put (x : (List ByteArray) × ByteArray) : M.spec_l6Put x = (((spec_l1Has (x.1, x.2)).bind fun r1 =>
      bif r1 then some true else
      some (decide (x.2 = (⟨⟨[95]⟩⟩ : ByteArray)))).bind fun s2 =>
    bif s2 then ((gd (x.1.length ≤ grow)).bind fun _ =>
      some x.1) else
    (gd (x.1.length ≤ grow)).bind fun _ =>
    (gd (x.1.length + [x.2].length ≤ grow)).bind fun _ =>
    (spec_l6Put_L0 (x.2, (IntKind.i64.wrap (((x.1 ++ [x.2]).length : Int) - 1)), (x.1 ++ [x.2]))).bind fun s3 =>
    (gd (0 ≤ s3.1)).bind fun _ =>
    (gd (s3.1 < (s3.2.length : Int))).bind fun _ =>
    some (s3.2.set s3.1.toNat x.2)) :=
  (RT_eq P tab (.fn s_spec_l6Put) x).trans (by kernel_rfl)
theorem e_spec_l6Join_L0 (x : (List ByteArray) × Int × (List ByteArray)) : M.spec_l6Join_L0 x = (bif decide (x.2.1 < (x.1.length : Int)) then ((ix x.1 x.2.1).bind fun e1 =>
      (spec_l6Put (x.2.2, e1)).bind fun r2 =>
      spec_l6Join_L0 (x.1, (IntKind.i64.wrap (x.2.1 + 1)), r2)) else
    some x.2.2) :=
  (RT_eq P tab (.lp s_spec_l6Join L_spec_l6Join_L0) x).trans (by kernel_rfl)
theorem e_spec_l6Join (x : (List ByteArray) × (List ByteArray)) : M.spec_l6Join x = ((gd (x.1.length ≤ grow)).bind fun _ =>
    (spec_l6Join_L0 (x.2, 0, x.1)).bind fun s1 =>
    some s1) :=
  (RT_eq P tab (.fn s_spec_l6Join) x).trans (by kernel_rfl)
theorem e_spec_l6Less_L0 (x : (List ByteArray) × (List ByteArray) × Int × (List ByteArray)) : M.spec_l6Less_L0 x = (bif decide (x.2.2.1 < (x.1.length : Int)) then ((ix x.1 x.2.2.1).bind fun e1 =>
      (spec_l1Has (x.2.1, e1)).bind fun r2 =>
      bif (!r2) then ((ix x.1 x.2.2.1).bind fun e3 =>
        (gd (x.2.2.2.length + [e3].length ≤ grow)).bind fun _ =>
        spec_l6Less_L0 (x.1, x.2.1, (IntKind.i64.wrap (x.2.2.1 + 1)), (x.2.2.2 ++ [e3]))) else
      spec_l6Less_L0 (x.1, x.2.1, (IntKind.i64.wrap (x.2.2.1 + 1)), x.2.2.2)) else
    some x.2.2.2) :=
  (RT_eq P tab (.lp s_spec_l6Less L_spec_l6Less_L0) x).trans (by kernel_rfl)
theorem e_spec_l6Less (x : (List ByteArray) × (List ByteArray)) : M.spec_l6Less x = ((spec_l6Less_L0 (x.1, x.2, 0, [])).bind fun s1 =>
    some s1) :=
  (RT_eq P tab (.fn s_spec_l6Less) x).trans (by kernel_rfl)
theorem e_spec_l6DecNames_L0 (x : (List Dec) × Int × (List ByteArray)) : M.spec_l6DecNames_L0 x = (bif decide (x.2.1 < (x.1.length : Int)) then ((ix x.1 x.2.1).bind fun e1 =>
      (gd (x.2.2.length + [e1.Name].length ≤ grow)).bind fun _ =>
      spec_l6DecNames_L0 (x.1, (IntKind.i64.wrap (x.2.1 + 1)), (x.2.2 ++ [e1.Name]))) else
    some x.2.2) :=
  (RT_eq P tab (.lp s_spec_l6DecNames L_spec_l6DecNames_L0) x).trans (by kernel_rfl)
theorem e_spec_l6DecNames (x : List Dec) : M.spec_l6DecNames x = ((spec_l6DecNames_L0 (x, 0, [])).bind fun s1 =>
    some s1) :=
  (RT_eq P tab (.fn s_spec_l6DecNames) x).trans (by kernel_rfl)
theorem e_spec_l6FreeOfDecs_L0 (x : (List Dec) × Int × (List ByteArray)) : M.spec_l6FreeOfDecs_L0 x = (bif decide (x.2.1 < (x.1.length : Int)) then ((ix x.1 x.2.1).bind fun e1 =>
      (spec_FreeOfDec e1).bind fun r2 =>
      (spec_l6Join (x.2.2, r2)).bind fun r3 =>
      spec_l6FreeOfDecs_L0 (x.1, (IntKind.i64.wrap (x.2.1 + 1)), r3)) else
    some x.2.2) :=
  (RT_eq P tab (.lp s_spec_l6FreeOfDecs L_spec_l6FreeOfDecs_L0) x).trans (by kernel_rfl)
theorem e_spec_l6FreeOfDecs (x : List Dec) : M.spec_l6FreeOfDecs x = ((spec_l6FreeOfDecs_L0 (x, 0, [])).bind fun s1 =>
    (spec_l6DecNames x).bind fun r2 =>
    (spec_l6Less (s1, r2)).bind fun r3 =>
    some r3) :=
  (RT_eq P tab (.fn s_spec_l6FreeOfDecs) x).trans (by kernel_rfl)
theorem e_spec_FreeOf_L0 (x : Int × Exp × (List ByteArray)) : M.spec_FreeOf_L0 x = (bif decide (x.1 < (x.2.1.L.length : Int)) then ((ix x.2.1.L x.1).bind fun e1 =>
      (spec_FreeOf e1).bind fun r2 =>
      (spec_l6Join (x.2.2, r2)).bind fun r3 =>
      spec_FreeOf_L0 ((IntKind.i64.wrap (x.1 + 1)), x.2.1, r3)) else
    some (x.2.1, x.2.2)) :=
  (RT_eq P tab (.lp s_spec_FreeOf L_spec_FreeOf_L0) x).trans (by kernel_rfl)
theorem e_spec_FreeOf_L1 (x : Int × Exp × (List ByteArray)) : M.spec_FreeOf_L1 x = (bif decide (x.1 < (x.2.1.Alts.length : Int)) then ((ix x.2.1.Alts x.1).bind fun e1 =>
      (ix x.2.1.Alts x.1).bind fun e2 =>
      (spec_FreeOf e1.E).bind fun r3 =>
      (spec_l6Less (r3, e2.Vars)).bind fun r4 =>
      (spec_l6Join (x.2.2, r4)).bind fun r5 =>
      spec_FreeOf_L1 ((IntKind.i64.wrap (x.1 + 1)), x.2.1, r5)) else
    some x.2.2) :=
  (RT_eq P tab (.lp s_spec_FreeOf L_spec_FreeOf_L1) x).trans (by kernel_rfl)
theorem e_spec_FreeOf (x : Exp) : M.spec_FreeOf x = (bif decide (x.K = 1) then ((spec_l6Put ([], x.S)).bind fun r1 =>
      some r1) else
    (spec_FreeOf_L0 (0, x, [])).bind fun s2 =>
    bif decide (s2.1.K = 5) then ((spec_l6Less (s2.2, [s2.1.S])).bind fun r3 =>
      some r3) else
    bif decide (s2.1.K = 6) then ((spec_l6DecNames s2.1.Decs).bind fun r4 =>
      (spec_l6Less (s2.2, r4)).bind fun r5 =>
      (spec_l6FreeOfDecs s2.1.Decs).bind fun r6 =>
      (spec_l6Join (r5, r6)).bind fun r7 =>
      some r7) else
    bif decide (s2.1.K = 7) then ((spec_FreeOf_L1 (0, s2.1, s2.2)).bind fun s8 =>
      some s8) else
    some s2.2) :=
  (RT_eq P tab (.fn s_spec_FreeOf) x).trans (by kernel_rfl)
theorem e_spec_FreeOfDec_L0 (x : Int × Dec × (List ByteArray)) : M.spec_FreeOfDec_L0 x = (bif decide (x.1 < (x.2.1.Where.length : Int)) then ((ix x.2.1.Where x.1).bind fun e1 =>
      (spec_FreeOfDec e1).bind fun r2 =>
      (spec_l6Join (x.2.2, r2)).bind fun r3 =>
      spec_FreeOfDec_L0 ((IntKind.i64.wrap (x.1 + 1)), x.2.1, r3)) else
    some (x.2.1, x.2.2)) :=
  (RT_eq P tab (.lp s_spec_FreeOfDec L_spec_FreeOfDec_L0) x).trans (by kernel_rfl)
theorem e_spec_FreeOfDec (x : Dec) : M.spec_FreeOfDec x = ((spec_FreeOf x.E).bind fun r1 =>
    (spec_FreeOfDec_L0 (0, x, r1)).bind fun s2 =>
    (spec_l6DecNames s2.1.Where).bind fun r3 =>
    (spec_l6Less (s2.2, r3)).bind fun r4 =>
    (spec_l6Less (r4, s2.1.Pars)).bind fun r5 =>
    some r5) :=
  (RT_eq P tab (.fn s_spec_FreeOfDec) x).trans (by kernel_rfl)
theorem e_spec_Needs_L0 (x : (List Dec) × Int × (List ByteArray) × (List ByteArray)) : M.spec_Needs_L0 x = (bif decide (x.2.1 < (x.2.2.2.length : Int)) then ((gd (0 ≤ x.2.1)).bind fun _ =>
      (gd (x.2.1 < (x.2.2.2.length : Int))).bind fun _ =>
      (x.2.2.2[x.2.1.toNat]?).bind fun e1 =>
      (spec_l8At (x.1, e1)).bind fun r2 =>
      bif decide (0 ≤ r2) then ((gd (0 ≤ x.2.1)).bind fun _ =>
        (gd (x.2.1 < (x.2.2.2.length : Int))).bind fun _ =>
        (x.2.2.2[x.2.1.toNat]?).bind fun e3 =>
        (gd (x.2.2.1.length + [e3].length ≤ grow)).bind fun _ =>
        spec_Needs_L0 (x.1, (IntKind.i64.wrap (x.2.1 + 1)), (x.2.2.1 ++ [e3]), x.2.2.2)) else
      spec_Needs_L0 (x.1, (IntKind.i64.wrap (x.2.1 + 1)), x.2.2.1, x.2.2.2)) else
    some x.2.2.1) :=
  (RT_eq P tab (.lp s_spec_Needs L_spec_Needs_L0) x).trans (by kernel_rfl)
theorem e_spec_Needs (x : (List Dec) × ByteArray) : M.spec_Needs x = ((spec_l8At (x.1, x.2)).bind fun r1 =>
    bif decide (r1 < 0) then some [] else
    (ix x.1 r1).bind fun e2 =>
    (spec_FreeOfDec e2).bind fun r3 =>
    (spec_Needs_L0 (x.1, 0, [], r3)).bind fun s4 =>
    some s4) :=
  (RT_eq P tab (.fn s_spec_Needs) x).trans (by kernel_rfl)
theorem e_spec_l8Place_L0 (x : ByteArray × Int × spec_l8Web) : M.spec_l8Place_L0 x = (bif decide (x.2.1 < (x.2.2.names.length : Int)) then ((ix x.2.2.names x.2.1).bind fun e1 =>
      bif decide (e1 = x.1) then some (.inl x.2.1) else
      spec_l8Place_L0 (x.1, (IntKind.i64.wrap (x.2.1 + 1)), x.2.2)) else
    some (.inr ())) :=
  (RT_eq P tab (.lp s_spec_l8Place L_spec_l8Place_L0) x).trans (by kernel_rfl)
theorem e_spec_l8Place (x : spec_l8Web × ByteArray) : M.spec_l8Place x = ((spec_l8Place_L0 (x.2, 0, x.1)).bind fun s1 =>
    Sum.elim (fun a2 =>
      some a2) (fun b3 =>
      some (-1)) s1) :=
  (RT_eq P tab (.fn s_spec_l8Place) x).trans (by kernel_rfl)
theorem e_spec_Reaches (x : (List Dec) × ByteArray × ByteArray) : M.spec_Reaches x = ((spec_l8Make x.1).bind fun r1 =>
    (spec_l8Place (r1, x.2.1)).bind fun r2 =>
    (spec_l8Place (r1, x.2.2)).bind fun r3 =>
    bif decide (0 ≤ r2) then (bif decide (0 ≤ r3) then ((ix r1.needs r2).bind fun e4 =>
        (ix e4 r3).bind fun e5 =>
        some e5) else
      some false) else
    some false) :=
  (RT_eq P tab (.fn s_spec_Reaches) x).trans (by kernel_rfl)
theorem e_laws_hasText_L0 (x : ByteArray × Int × (List ByteArray)) : M.laws_hasText_L0 x = (bif decide (x.2.1 < (x.2.2.length : Int)) then ((gd (0 ≤ x.2.1)).bind fun _ =>
      (gd (x.2.1 < (x.2.2.length : Int))).bind fun _ =>
      (x.2.2[x.2.1.toNat]?).bind fun e1 =>
      bif decide (e1 = x.1) then some (.inl true) else
      laws_hasText_L0 (x.1, (IntKind.i64.wrap (x.2.1 + 1)), x.2.2)) else
    some (.inr ())) :=
  (RT_eq P tab (.lp s_laws_hasText L_laws_hasText_L0) x).trans (by kernel_rfl)
theorem e_laws_hasText (x : ByteArray × (List ByteArray)) : M.laws_hasText x = ((laws_hasText_L0 (x.1, 0, x.2)).bind fun s1 =>
    Sum.elim (fun a2 =>
      some a2) (fun b3 =>
      some false) s1) :=
  (RT_eq P tab (.fn s_laws_hasText) x).trans (by kernel_rfl)
theorem e_laws_FnGroups_L0 (x : (List Dec) × (List (List ByteArray)) × Int × (List ByteArray)) : M.laws_FnGroups_L0 x = (bif decide (x.2.2.1 < (x.2.1.length : Int)) then ((laws_FnGroups_L1 (x.1, x.2.1, x.2.2.1, 0, x.2.2.2)).bind fun s1 =>
      Sum.elim (fun a2 =>
        some (.inl a2)) (fun b3 =>
        (laws_FnGroups_L3 (x.1, x.2.1, x.2.2.1, 0, b3)).bind fun s4 =>
        Sum.elim (fun a5 =>
          some (.inl a5)) (fun b6 =>
          laws_FnGroups_L0 (x.1, x.2.1, (IntKind.i64.wrap (x.2.2.1 + 1)), b6)) s4) s1) else
    some (.inr x.2.2.2)) :=
  (RT_eq P tab (.lp s_laws_FnGroups L_laws_FnGroups_L0) x).trans (by kernel_rfl)
theorem e_laws_FnGroups_L1 (x : (List Dec) × (List (List ByteArray)) × Int × Int × (List ByteArray)) : M.laws_FnGroups_L1 x = ((ix x.2.1 x.2.2.1).bind fun e1 =>
    bif decide (x.2.2.2.1 < (e1.length : Int)) then ((ix x.2.1 x.2.2.1).bind fun e2 =>
      (ix e2 x.2.2.2.1).bind fun e3 =>
      (laws_hasText (e3, x.2.2.2.2)).bind fun r4 =>
      bif r4 then some (.inl false) else
      (ix x.2.1 x.2.2.1).bind fun e5 =>
      (ix e5 x.2.2.2.1).bind fun e6 =>
      (gd (x.2.2.2.2.length + [e6].length ≤ grow)).bind fun _ =>
      (laws_FnGroups_L2 (x.1, x.2.1, x.2.2.1, x.2.2.2.1, 0, (x.2.2.2.2 ++ [e6]))).bind fun s7 =>
      Sum.elim (fun a8 =>
        some (.inl a8)) (fun b9 =>
        laws_FnGroups_L1 (x.1, x.2.1, x.2.2.1, (IntKind.i64.wrap (x.2.2.2.1 + 1)), b9)) s7) else
    some (.inr x.2.2.2.2)) :=
  (RT_eq P tab (.lp s_laws_FnGroups L_laws_FnGroups_L1) x).trans (by kernel_rfl)
theorem e_laws_FnGroups_L2 (x : (List Dec) × (List (List ByteArray)) × Int × Int × Int × (List ByteArray)) : M.laws_FnGroups_L2 x = (bif decide (x.2.2.2.2.1 < x.2.2.2.1) then ((ix x.2.1 x.2.2.1).bind fun e1 =>
      (ix e1 x.2.2.2.1).bind fun e2 =>
      (ix x.2.1 x.2.2.1).bind fun e3 =>
      (ix e3 x.2.2.2.2.1).bind fun e4 =>
      (impl_Reaches (x.1, e2, e4)).bind fun r5 =>
      bif (!r5) then some (.inl false) else
      (ix x.2.1 x.2.2.1).bind fun e6 =>
      (ix e6 x.2.2.2.2.1).bind fun e7 =>
      (ix x.2.1 x.2.2.1).bind fun e8 =>
      (ix e8 x.2.2.2.1).bind fun e9 =>
      (impl_Reaches (x.1, e7, e9)).bind fun r10 =>
      bif (!r10) then some (.inl false) else
      laws_FnGroups_L2 (x.1, x.2.1, x.2.2.1, x.2.2.2.1, (IntKind.i64.wrap (x.2.2.2.2.1 + 1)), x.2.2.2.2.2)) else
    some (.inr x.2.2.2.2.2)) :=
  (RT_eq P tab (.lp s_laws_FnGroups L_laws_FnGroups_L2) x).trans (by kernel_rfl)
theorem e_laws_FnGroups_L3 (x : (List Dec) × (List (List ByteArray)) × Int × Int × (List ByteArray)) : M.laws_FnGroups_L3 x = ((ix x.2.1 x.2.2.1).bind fun e1 =>
    bif decide (x.2.2.2.1 < (e1.length : Int)) then ((ix x.2.1 x.2.2.1).bind fun e2 =>
      (ix e2 x.2.2.2.1).bind fun e3 =>
      (impl_Needs (x.1, e3)).bind fun r4 =>
      (laws_FnGroups_L4 (0, x.2.2.2.2, r4)).bind fun s5 =>
      Sum.elim (fun a6 =>
        some (.inl a6)) (fun b7 =>
        laws_FnGroups_L3 (x.1, x.2.1, x.2.2.1, (IntKind.i64.wrap (x.2.2.2.1 + 1)), b7)) s5) else
    some (.inr x.2.2.2.2)) :=
  (RT_eq P tab (.lp s_laws_FnGroups L_laws_FnGroups_L3) x).trans (by kernel_rfl)
theorem e_laws_FnGroups_L4 (x : Int × (List ByteArray) × (List ByteArray)) : M.laws_FnGroups_L4 x = (bif decide (x.1 < (x.2.2.length : Int)) then ((gd (0 ≤ x.1)).bind fun _ =>
      (gd (x.1 < (x.2.2.length : Int))).bind fun _ =>
      (x.2.2[x.1.toNat]?).bind fun e1 =>
      (laws_hasText (e1, x.2.1)).bind fun r2 =>
      bif (!r2) then some (.inl false) else
      laws_FnGroups_L4 ((IntKind.i64.wrap (x.1 + 1)), x.2.1, x.2.2)) else
    some (.inr x.2.1)) :=
  (RT_eq P tab (.lp s_laws_FnGroups L_laws_FnGroups_L4) x).trans (by kernel_rfl)
theorem e_laws_FnGroups_L5 (x : (List Dec) × Int × (List ByteArray)) : M.laws_FnGroups_L5 x = (bif decide (x.2.1 < (x.1.length : Int)) then ((ix x.1 x.2.1).bind fun e1 =>
      (laws_hasText (e1.Name, x.2.2)).bind fun r2 =>
      bif (!r2) then some (.inl false) else
      laws_FnGroups_L5 (x.1, (IntKind.i64.wrap (x.2.1 + 1)), x.2.2)) else
    some (.inr x.2.2)) :=
  (RT_eq P tab (.lp s_laws_FnGroups L_laws_FnGroups_L5) x).trans (by kernel_rfl)
theorem e_laws_FnGroups (x : List Int) : M.laws_FnGroups x = ((laws_big x).bind fun r1 =>
    bif r1 then some true else
    (spec_DrawGroups x).bind fun r2 =>
    (impl_Groups r2).bind fun r3 =>
    (spec_DrawNeeds x).bind fun r4 =>
    (spec_DrawReaches x).bind fun r5 =>
    (spec_Groups r2).bind fun r6 =>
    (laws_sameGroups (r3, r6)).bind fun r7 =>
    bif (!r7) then some false else
    (impl_Needs (r4.1, r4.2)).bind fun r8 =>
    (spec_Needs (r4.1, r4.2)).bind fun r9 =>
    (laws_sameTexts (r8, r9)).bind fun r10 =>
    bif (!r10) then some false else
    (impl_Reaches (r5.1, r5.2.1, r5.2.2)).bind fun r11 =>
    (spec_Reaches (r5.1, r5.2.1, r5.2.2)).bind fun r12 =>
    bif (!(r11 == r12)) then some false else
    (laws_FnGroups_L0 (r2, r3, 0, [])).bind fun s13 =>
    Sum.elim (fun a14 =>
      some a14) (fun b15 =>
      (laws_FnGroups_L5 (r2, 0, b15)).bind fun s16 =>
      Sum.elim (fun a17 =>
        some a17) (fun b18 =>
        some (decide ((b18.length : Int) ≤ (r2.length : Int)))) s16) s13) :=
  (RT_eq P tab (.fn s_laws_FnGroups) x).trans (by kernel_rfl)
end M
end W
