import Derived.Test.YtamneeogomklgaaGreatGE
set_option linter.unusedSimpArgs false
set_option linter.unusedVariables false
set_option linter.unusedSectionVars false
namespace W
open Go HL HL.X
set_option linter.unusedVariables false
set_option maxRecDepth 1000000
set_option maxHeartbeats 4000000
noncomputable def tab2 : List (FS S) := [s_laws_big, s_spec_l1New, s_spec_l1Byte, s_spec_l1Below, s_spec_l1Once, s_spec_l9Int, s_spec_l9Data, s_spec_l3Datas, s_spec_l1Str, s_spec_l3Name, s_spec_l3Pars, s_spec_l1Int, s_spec_l3Var, s_spec_l3Num, s_spec_l3DrawAlts, s_spec_l3App, s_spec_l3Draw, s_spec_l3DrawDecs, s_spec_l3Prog, s_spec_l1Strs, s_spec_l3Any, s_spec_l3ProgAny, s_spec_l1Prog, s_spec_l1Skip, s_spec_l1In, s_spec_l1Digit, s_spec_l1NumOk, s_spec_l1Small, s_spec_l1Large, s_spec_l1Letter, s_spec_l1Has, s_spec_l1IsWord, s_spec_l1Letters, s_spec_NameOk, s_spec_GreatOk, s_spec_l1Kind, s_spec_l1Next, s_spec_l1Place, s_spec_Lex, s_spec_l2Is, s_spec_l2Push, s_spec_l2Put, s_spec_l2Margin, s_spec_l2Needs, s_spec_l2Top, s_spec_l2Pop, s_spec_l2Opens, s_spec_l2Out, s_spec_l2Line, s_spec_l2Step, s_spec_Lay, s_spec_l4Is, s_spec_l4Mark, s_spec_l4Must, s_spec_l4Open, s_spec_l4Word, s_spec_l4Kind, s_spec_l4Tok, s_spec_l4Next, s_spec_l4Great, s_spec_l4Named, s_spec_l9Fun, s_spec_l4Type, s_spec_l4Atype, s_spec_l4Con, s_spec_l4Data, s_spec_l4IsPar, s_spec_l4Par, s_spec_l4Pars, s_spec_l4Block, s_spec_l4Alt, s_spec_l4Alts, s_spec_l4Atom, s_spec_l4IsAtom, s_spec_l4App, s_spec_l4Bin, s_spec_l4Mul, s_spec_l4Sum, s_spec_l4Cmp, s_spec_l4Whole, s_spec_l4Exp, s_spec_l4Dec, s_spec_l4Close, s_spec_l3Own, s_spec_l3Times, s_spec_l9Written, s_spec_l3Data, s_spec_l3Vars, s_spec_l3Parts, s_spec_l3Op, s_spec_l3Here, s_spec_l3Alt, s_spec_l3Count, s_spec_l3Decs, s_spec_ProgOk, s_spec_ParseProg, s_spec_l7Prog, s_spec_l8Decs, s_spec_DrawGroups, s_impl_decAt_1, s_slices_IndexFunc_impl_Dec_at_decAt_1, s_impl_decAt, s_slices_Grow_string, s_slices_Concat_string, s_impl_also, s_impl_decNames, s_slices_Index_string, s_slices_Contains_string, s_impl_freeExp, s_impl_freeDec, s_impl_sorted, s_impl_FreeOfDec, s_impl_Needs_1, s_slices_DeleteFunc_string_at_Needs_1, s_impl_Needs, s_impl_reached, s_impl_Reaches, s_slices_Compact_string, s_impl_together, s_impl_Groups_1_1, s_slices_IndexFunc_string_at_Groups_1_1, s_slices_ContainsFunc_string_at_Groups_1_1, s_impl_Groups_1, s_slices_IndexFunc_string_at_Groups_1, s_slices_ContainsFunc_string_at_Groups_1, s_impl_Groups, s_spec_DrawNeeds, s_spec_DrawReaches, s_spec_l8With, s_spec_l8Free, s_spec_Groups, s_laws_sameTexts, s_laws_sameGroups, s_spec_l8At, s_spec_l6Put, s_spec_l6Join, s_spec_l6Less, s_spec_l6DecNames, s_spec_l6FreeOfDecs, s_spec_FreeOf, s_spec_FreeOfDec, s_spec_Needs, s_spec_l8Place, s_spec_Reaches, s_laws_hasText, s_laws_FnGroups, s_spec_l1HasV, s_spec_l3VarV, s_spec_l3NumV, s_spec_l3AppV, s_spec_l3DrawV, s_slices_Index_stringV, s_slices_Contains_stringV, s_slices_IndexFunc_stringV_at_Needs_1]
namespace Ew
theorem meet_self {O : Type} (a : Option O) : X.meet a a = a := by simp [X.meet]
structure Fs where
  a0 : (List ByteArray) × ByteArray × Int → Option (Bool ⊕ Unit)
  a1 : (List ByteArray) × ByteArray → Option (Bool)
  a2 : (List Dec) × ByteArray × Int → Option (Int ⊕ Unit)
  a3 : (List Dec) × ByteArray → Option (Int)
  a4 : ByteArray × Int × (List ByteArray) → Option (Int × (List ByteArray))
  a5 : (List ByteArray) × ByteArray → Option (List ByteArray)
  a6 : (List ByteArray) × Int × (List ByteArray) → Option (List ByteArray)
  a7 : (List ByteArray) × (List ByteArray) → Option (List ByteArray)
  a8 : (List ByteArray) × (List ByteArray) × Int × (List ByteArray) → Option (List ByteArray)
  a9 : (List ByteArray) × (List ByteArray) → Option (List ByteArray)
  a10 : (List Dec) × Int × (List ByteArray) → Option (List ByteArray)
  a11 : List Dec → Option (List ByteArray)
  a12 : (List Dec) × Int × (List ByteArray) → Option (List ByteArray)
  a13 : List Dec → Option (List ByteArray)
  a14 : Int × Exp × (List ByteArray) → Option (Exp × (List ByteArray))
  a15 : Int × Exp × (List ByteArray) → Option (List ByteArray)
  a16 : Exp → Option (List ByteArray)
  a17 : Int × Dec × (List ByteArray) → Option (Dec × (List ByteArray))
  a18 : Dec → Option (List ByteArray)
  a19 : (List Dec) × Int × (List ByteArray) × (List ByteArray) → Option (List ByteArray)
  a20 : (List Dec) × ByteArray → Option (List ByteArray)
def step (F : Fs) : Fs where
  a0 := fun x => bif decide (x.2.2 < (x.1.length : Int)) then ((ix x.1 x.2.2).bind fun e1 =>
      bif decide (e1 = x.2.1) then some (.inl true) else
      F.a0 (x.1, x.2.1, (IntKind.i64.wrap (x.2.2 + 1)))) else
    some (.inr ())
  a1 := fun x => (F.a0 (x.1, x.2, 0)).bind fun s1 =>
    Sum.elim (fun a2 =>
      some a2) (fun b3 =>
      some false) s1
  a2 := fun x => bif decide (x.2.2 < (x.1.length : Int)) then ((ix x.1 x.2.2).bind fun e1 =>
      bif decide (e1.Name = x.2.1) then some (.inl x.2.2) else
      F.a2 (x.1, x.2.1, (IntKind.i64.wrap (x.2.2 + 1)))) else
    some (.inr ())
  a3 := fun x => (F.a2 (x.1, x.2, 0)).bind fun s1 =>
    Sum.elim (fun a2 =>
      some a2) (fun b3 =>
      some (-1)) s1
  a4 := fun x => bif decide (0 < x.2.1) then ((gd (0 ≤ (IntKind.i64.wrap (x.2.1 - 1)))).bind fun _ =>
      (gd ((IntKind.i64.wrap (x.2.1 - 1)) < (x.2.2.length : Int))).bind fun _ =>
      (x.2.2[(IntKind.i64.wrap (x.2.1 - 1)).toNat]?).bind fun e1 =>
      bif (!(Op.bytesLess e1.toList x.1.toList || decide (e1 = x.1))) then ((gd (0 ≤ (IntKind.i64.wrap (x.2.1 - 1)))).bind fun _ =>
        (gd ((IntKind.i64.wrap (x.2.1 - 1)) < (x.2.2.length : Int))).bind fun _ =>
        (x.2.2[(IntKind.i64.wrap (x.2.1 - 1)).toNat]?).bind fun e2 =>
        (gd (0 ≤ x.2.1)).bind fun _ =>
        (gd (x.2.1 < (x.2.2.length : Int))).bind fun _ =>
        F.a4 (x.1, (IntKind.i64.wrap (x.2.1 - 1)), (x.2.2.set x.2.1.toNat e2))) else
      some (x.2.1, x.2.2)) else
    some (x.2.1, x.2.2)
  a5 := fun x => ((F.a1 (x.1, x.2)).bind fun r1 =>
      bif r1 then some true else
      some (decide (x.2 = (⟨⟨[95]⟩⟩ : ByteArray)))).bind fun s2 =>
    bif s2 then ((gd (x.1.length ≤ grow)).bind fun _ =>
      some x.1) else
    (gd (x.1.length ≤ grow)).bind fun _ =>
    (gd (x.1.length + [x.2].length ≤ grow)).bind fun _ =>
    (F.a4 (x.2, (IntKind.i64.wrap (((x.1 ++ [x.2]).length : Int) - 1)), (x.1 ++ [x.2]))).bind fun s3 =>
    (gd (0 ≤ s3.1)).bind fun _ =>
    (gd (s3.1 < (s3.2.length : Int))).bind fun _ =>
    some (s3.2.set s3.1.toNat x.2)
  a6 := fun x => bif decide (x.2.1 < (x.1.length : Int)) then ((ix x.1 x.2.1).bind fun e1 =>
      (F.a5 (x.2.2, e1)).bind fun r2 =>
      F.a6 (x.1, (IntKind.i64.wrap (x.2.1 + 1)), r2)) else
    some x.2.2
  a7 := fun x => (gd (x.1.length ≤ grow)).bind fun _ =>
    (F.a6 (x.2, 0, x.1)).bind fun s1 =>
    some s1
  a8 := fun x => bif decide (x.2.2.1 < (x.1.length : Int)) then ((ix x.1 x.2.2.1).bind fun e1 =>
      (F.a1 (x.2.1, e1)).bind fun r2 =>
      bif (!r2) then ((ix x.1 x.2.2.1).bind fun e3 =>
        (gd (x.2.2.2.length + [e3].length ≤ grow)).bind fun _ =>
        F.a8 (x.1, x.2.1, (IntKind.i64.wrap (x.2.2.1 + 1)), (x.2.2.2 ++ [e3]))) else
      F.a8 (x.1, x.2.1, (IntKind.i64.wrap (x.2.2.1 + 1)), x.2.2.2)) else
    some x.2.2.2
  a9 := fun x => (F.a8 (x.1, x.2, 0, [])).bind fun s1 =>
    some s1
  a10 := fun x => bif decide (x.2.1 < (x.1.length : Int)) then ((ix x.1 x.2.1).bind fun e1 =>
      (gd (x.2.2.length + [e1.Name].length ≤ grow)).bind fun _ =>
      F.a10 (x.1, (IntKind.i64.wrap (x.2.1 + 1)), (x.2.2 ++ [e1.Name]))) else
    some x.2.2
  a11 := fun x => (F.a10 (x, 0, [])).bind fun s1 =>
    some s1
  a12 := fun x => bif decide (x.2.1 < (x.1.length : Int)) then ((ix x.1 x.2.1).bind fun e1 =>
      (F.a18 e1).bind fun r2 =>
      (F.a7 (x.2.2, r2)).bind fun r3 =>
      F.a12 (x.1, (IntKind.i64.wrap (x.2.1 + 1)), r3)) else
    some x.2.2
  a13 := fun x => (F.a12 (x, 0, [])).bind fun s1 =>
    (F.a11 x).bind fun r2 =>
    (F.a9 (s1, r2)).bind fun r3 =>
    some r3
  a14 := fun x => bif decide (x.1 < (x.2.1.L.length : Int)) then ((ix x.2.1.L x.1).bind fun e1 =>
      (F.a16 e1).bind fun r2 =>
      (F.a7 (x.2.2, r2)).bind fun r3 =>
      F.a14 ((IntKind.i64.wrap (x.1 + 1)), x.2.1, r3)) else
    some (x.2.1, x.2.2)
  a15 := fun x => bif decide (x.1 < (x.2.1.Alts.length : Int)) then ((ix x.2.1.Alts x.1).bind fun e1 =>
      (ix x.2.1.Alts x.1).bind fun e2 =>
      (F.a16 e1.E).bind fun r3 =>
      (F.a9 (r3, e2.Vars)).bind fun r4 =>
      (F.a7 (x.2.2, r4)).bind fun r5 =>
      F.a15 ((IntKind.i64.wrap (x.1 + 1)), x.2.1, r5)) else
    some x.2.2
  a16 := fun x => bif decide (x.K = 1) then ((F.a5 ([], x.S)).bind fun r1 =>
      some r1) else
    (F.a14 (0, x, [])).bind fun s2 =>
    bif decide (s2.1.K = 5) then ((F.a9 (s2.2, [s2.1.S])).bind fun r3 =>
      some r3) else
    bif decide (s2.1.K = 6) then ((F.a11 s2.1.Decs).bind fun r4 =>
      (F.a9 (s2.2, r4)).bind fun r5 =>
      (F.a13 s2.1.Decs).bind fun r6 =>
      (F.a7 (r5, r6)).bind fun r7 =>
      some r7) else
    bif decide (s2.1.K = 7) then ((F.a15 (0, s2.1, s2.2)).bind fun s8 =>
      some s8) else
    some s2.2
  a17 := fun x => bif decide (x.1 < (x.2.1.Where.length : Int)) then ((ix x.2.1.Where x.1).bind fun e1 =>
      (F.a18 e1).bind fun r2 =>
      (F.a7 (x.2.2, r2)).bind fun r3 =>
      F.a17 ((IntKind.i64.wrap (x.1 + 1)), x.2.1, r3)) else
    some (x.2.1, x.2.2)
  a18 := fun x => (F.a16 x.E).bind fun r1 =>
    (F.a17 (0, x, r1)).bind fun s2 =>
    (F.a11 s2.1.Where).bind fun r3 =>
    (F.a9 (s2.2, r3)).bind fun r4 =>
    (F.a9 (r4, s2.1.Pars)).bind fun r5 =>
    some r5
  a19 := fun x => bif decide (x.2.1 < (x.2.2.2.length : Int)) then ((gd (0 ≤ x.2.1)).bind fun _ =>
      (gd (x.2.1 < (x.2.2.2.length : Int))).bind fun _ =>
      (x.2.2.2[x.2.1.toNat]?).bind fun e1 =>
      (F.a3 (x.1, e1)).bind fun r2 =>
      bif decide (0 ≤ r2) then ((gd (0 ≤ x.2.1)).bind fun _ =>
        (gd (x.2.1 < (x.2.2.2.length : Int))).bind fun _ =>
        (x.2.2.2[x.2.1.toNat]?).bind fun e3 =>
        (gd (x.2.2.1.length + [e3].length ≤ grow)).bind fun _ =>
        F.a19 (x.1, (IntKind.i64.wrap (x.2.1 + 1)), (x.2.2.1 ++ [e3]), x.2.2.2)) else
      F.a19 (x.1, (IntKind.i64.wrap (x.2.1 + 1)), x.2.2.1, x.2.2.2)) else
    some x.2.2.1
  a20 := fun x => (F.a3 (x.1, x.2)).bind fun r1 =>
    bif decide (r1 < 0) then some [] else
    (ix x.1 r1).bind fun e2 =>
    (F.a18 e2).bind fun r3 =>
    (F.a19 (x.1, 0, [], r3)).bind fun s4 =>
    some s4
def none0 : Fs := ⟨fun _ => none, fun _ => none, fun _ => none, fun _ => none, fun _ => none, fun _ => none, fun _ => none, fun _ => none, fun _ => none, fun _ => none, fun _ => none, fun _ => none, fun _ => none, fun _ => none, fun _ => none, fun _ => none, fun _ => none, fun _ => none, fun _ => none, fun _ => none, fun _ => none⟩
def run : Nat → Fs
  | 0 => none0
  | n + 1 => step (run n)
def mk (c : (i : Q S) → i.In → Option i.Out) : Fs := ⟨c (.lp s_spec_l1Has L_spec_l1Has_L0), c (.fn s_spec_l1Has), c (.lp s_spec_l8At L_spec_l8At_L0), c (.fn s_spec_l8At), c (.lp s_spec_l6Put L_spec_l6Put_L0), c (.fn s_spec_l6Put), c (.lp s_spec_l6Join L_spec_l6Join_L0), c (.fn s_spec_l6Join), c (.lp s_spec_l6Less L_spec_l6Less_L0), c (.fn s_spec_l6Less), c (.lp s_spec_l6DecNames L_spec_l6DecNames_L0), c (.fn s_spec_l6DecNames), c (.lp s_spec_l6FreeOfDecs L_spec_l6FreeOfDecs_L0), c (.fn s_spec_l6FreeOfDecs), c (.lp s_spec_FreeOf L_spec_FreeOf_L0), c (.lp s_spec_FreeOf L_spec_FreeOf_L1), c (.fn s_spec_FreeOf), c (.lp s_spec_FreeOfDec L_spec_FreeOfDec_L0), c (.fn s_spec_FreeOfDec), c (.lp s_spec_Needs L_spec_Needs_L0), c (.fn s_spec_Needs)⟩
theorem st_eq (c : (i : Q S) → i.In → Option i.Out) : step (mk c) = mk fun i x => interp c (tree P tab i x) := by kernel_rfl
theorem run_eq : ∀ n, run n = mk (runN P tab n)
  | 0 => rfl
  | n + 1 => by
    show step (run n) = _
    rw [run_eq n]
    exact st_eq _
theorem st_eq2 (c : (i : Q S) → i.In → Option i.Out) : step (mk c) = mk fun i x => interp c (tree P tab2 i x) := by kernel_rfl
theorem run_eq2 : ∀ n, run n = mk (runN P tab2 n)
  | 0 => rfl
  | n + 1 => by
    show step (run n) = _
    rw [run_eq2 n]
    exact st_eq2 _
theorem spec_Needs_eq (n : Nat) (x : (List Dec) × ByteArray) : (run n).a20 x = runN P tab n (.fn s_spec_Needs) x := by rw [run_eq n]; rfl
theorem spec_Needs_eq2 (n : Nat) (x : (List Dec) × ByteArray) : (run n).a20 x = runN P tab2 n (.fn s_spec_Needs) x := by rw [run_eq2 n]; rfl
def spec_Needs (n : Nat) (x : (List Dec) × ByteArray) : Option (List ByteArray) := (run n).a20 x
theorem spec_l1Has_eq (n : Nat) (x : (List ByteArray) × ByteArray) : (run n).a1 x = runN P tab n (.fn s_spec_l1Has) x := by rw [run_eq n]; rfl
theorem spec_l1Has_eq2 (n : Nat) (x : (List ByteArray) × ByteArray) : (run n).a1 x = runN P tab2 n (.fn s_spec_l1Has) x := by rw [run_eq2 n]; rfl
def spec_l1Has (n : Nat) (x : (List ByteArray) × ByteArray) : Option (Bool) := (run n).a1 x
end Ew
theorem Ew.both_needs {x : (List Dec) × ByteArray} {o : List ByteArray} (h : M.spec_Needs x = some o) : RT P tab2 (.fn s_spec_Needs) x = some o := by
  obtain ⟨n, h⟩ := RT_s P tab h
  exact RT_of P tab2 (n := n) (((Ew.spec_Needs_eq2 n x).symm.trans (Ew.spec_Needs_eq n x)).trans h)
theorem Ew.both_has {x : (List ByteArray) × ByteArray} {o : Bool} (h : M.spec_l1Has x = some o) : RT P tab2 (.fn s_spec_l1Has) x = some o := by
  obtain ⟨n, h⟩ := RT_s P tab h
  exact RT_of P tab2 (n := n) (((Ew.spec_l1Has_eq2 n x).symm.trans (Ew.spec_l1Has_eq n x)).trans h)
end W
