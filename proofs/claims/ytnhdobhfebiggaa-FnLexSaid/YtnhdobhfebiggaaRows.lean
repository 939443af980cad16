/-
  NARROWER THAN 'FOR EVERY INPUT', by the rows' own cells (each row's printed sentence says how): FnExactSameTy: loops · FnExactVarsOf: loops · FnExactSameExp: loops · FnExactIsBare: loops · FnExactDataOf: loops · FnExactArityOf: loops · FnExactSameProg: loops.
  DERIVED. THE GIVEN ROWS OF THIS SEAT. 10 by the template 'for every input the law returns true; each argument reads behind the call as it read before'; 0 by the template 'total and deterministic' (their statements: YtnhdobhfebiggaaTotals.lean).
  GIVEN WITH THE SEED: the statements are not yours to turn. If you find one false, say at which input.
  Laid BY PROGRAM, IN A SANDBOX (cutbox-rows.mjs): the forced cells as the released guide's own fill.sh prints them over the translation da73a2a651f9b50c… (all of the seat's roots in one cut). By AI agents, Wed Nov 11 2026. No macro, syntax, notation, axiom, sorry.
-/
import Derived.Test.YtnhdobhfebiggaaChecked
import GoSem.Claim
import GoSem.ClaimJoined
import GoSem.ClaimMapViews
import Derived.JoinedTies
import Derived.KernelRfl
namespace Go.Proofs.Ytnhdobhfebiggaa
/- THE CELL 'sum', in the pinned program and in every row, IS THE sha256 OF THE DUMP (.gsa) THAT YtnhdobhfebiggaaProg.lean LOADS. Nothing in Lean hashes anything: it is a label: what it is worth is what the hold of that sum in a sandbox is worth. -/
noncomputable def Try.pinned : Pinned := { name := "ytnhdobhfebiggaa", sum := "da73a2a651f9b50c70935ea100fefee00c4c1e412386aa274a120e44246275b5", checked := Try.checked }
namespace Rows
def none {H : Type} : Left H := { results := [], args := [] }

/-- 'laws.FnExactSameTy': WHATEVER THE INPUT: true; the input reads as it did. -/
def fnExactSameTySpec : ChangeSpec := { name := "fnExactSameTy", fn := fun _ => fun
  | [d1, d2] => { results := [.lit (.bool true)], args := [d1, d2] }
  | _ => none }
def fnExactSameTyRow : OpenClaim := { program := "ytnhdobhfebiggaa", sum := "da73a2a651f9b50c70935ea100fefee00c4c1e412386aa274a120e44246275b5", func := "loop.example/g00471/laws.FnExactSameTy", spec := "fnExactSameTy", unfollowed := true, recurses := true, loops := true, apart := false }
def FnExactSameTySaid : Prop := fnExactSameTyRow.holds Try.pinned (OpenSpec.ofChange fnExactSameTySpec)

/-- ITS FALSE NEIGHBOUR: 'it returns false'. Refute it at one input. -/
def fnExactSameTyWrong : ChangeSpec := { name := "fnExactSameTy", fn := fun _ => fun
  | [d1, d2] => { results := [.lit (.bool false)], args := [d1, d2] }
  | _ => none }
def FnExactSameTyWrongFalsely : Prop := fnExactSameTyRow.holds Try.pinned (OpenSpec.ofChange fnExactSameTyWrong)

/-- 'laws.FnExactBlocks': WHATEVER THE INPUT: true; the input reads as it did. -/
def fnExactBlocksSpec : ChangeSpec := { name := "fnExactBlocks", fn := fun _ => fun
  | [d] => { results := [.lit (.bool true)], args := [d] }
  | _ => none }
def fnExactBlocksRow : OpenClaim := { program := "ytnhdobhfebiggaa", sum := "da73a2a651f9b50c70935ea100fefee00c4c1e412386aa274a120e44246275b5", func := "loop.example/g00471/laws.FnExactBlocks", spec := "fnExactBlocks", unfollowed := true, recurses := true, apart := false }
def FnExactBlocksSaid : Prop := fnExactBlocksRow.holds Try.pinned (OpenSpec.ofChange fnExactBlocksSpec)

/-- ITS FALSE NEIGHBOUR: 'it returns false'. Refute it at one input. -/
def fnExactBlocksWrong : ChangeSpec := { name := "fnExactBlocks", fn := fun _ => fun
  | [d] => { results := [.lit (.bool false)], args := [d] }
  | _ => none }
def FnExactBlocksWrongFalsely : Prop := fnExactBlocksRow.holds Try.pinned (OpenSpec.ofChange fnExactBlocksWrong)

/-- 'laws.FnExactVarsOf': WHATEVER THE INPUT: true; the input reads as it did. -/
def fnExactVarsOfSpec : ChangeSpec := { name := "fnExactVarsOf", fn := fun _ => fun
  | [d] => { results := [.lit (.bool true)], args := [d] }
  | _ => none }
def fnExactVarsOfRow : OpenClaim := { program := "ytnhdobhfebiggaa", sum := "da73a2a651f9b50c70935ea100fefee00c4c1e412386aa274a120e44246275b5", func := "loop.example/g00471/laws.FnExactVarsOf", spec := "fnExactVarsOf", recurses := true, loops := true, apart := false }
def FnExactVarsOfSaid : Prop := fnExactVarsOfRow.holds Try.pinned (OpenSpec.ofChange fnExactVarsOfSpec)

/-- ITS FALSE NEIGHBOUR: 'it returns false'. Refute it at one input. -/
def fnExactVarsOfWrong : ChangeSpec := { name := "fnExactVarsOf", fn := fun _ => fun
  | [d] => { results := [.lit (.bool false)], args := [d] }
  | _ => none }
def FnExactVarsOfWrongFalsely : Prop := fnExactVarsOfRow.holds Try.pinned (OpenSpec.ofChange fnExactVarsOfWrong)

/-- 'laws.FnExactLex': WHATEVER THE INPUT: true; the input reads as it did. -/
def fnExactLexSpec : ChangeSpec := { name := "fnExactLex", fn := fun _ => fun
  | [d] => { results := [.lit (.bool true)], args := [d] }
  | _ => none }
def fnExactLexRow : OpenClaim := { program := "ytnhdobhfebiggaa", sum := "da73a2a651f9b50c70935ea100fefee00c4c1e412386aa274a120e44246275b5", func := "loop.example/g00471/laws.FnExactLex", spec := "fnExactLex", unfollowed := true, recurses := true, apart := false }
def FnExactLexSaid : Prop := fnExactLexRow.holds Try.pinned (OpenSpec.ofChange fnExactLexSpec)

/-- ITS FALSE NEIGHBOUR: 'it returns false'. Refute it at one input. -/
def fnExactLexWrong : ChangeSpec := { name := "fnExactLex", fn := fun _ => fun
  | [d] => { results := [.lit (.bool false)], args := [d] }
  | _ => none }
def FnExactLexWrongFalsely : Prop := fnExactLexRow.holds Try.pinned (OpenSpec.ofChange fnExactLexWrong)

/-- 'laws.FnExactSameExp': WHATEVER THE INPUT: true; the input reads as it did. -/
def fnExactSameExpSpec : ChangeSpec := { name := "fnExactSameExp", fn := fun _ => fun
  | [d1, d2] => { results := [.lit (.bool true)], args := [d1, d2] }
  | _ => none }
def fnExactSameExpRow : OpenClaim := { program := "ytnhdobhfebiggaa", sum := "da73a2a651f9b50c70935ea100fefee00c4c1e412386aa274a120e44246275b5", func := "loop.example/g00471/laws.FnExactSameExp", spec := "fnExactSameExp", unfollowed := true, recurses := true, loops := true, apart := false }
def FnExactSameExpSaid : Prop := fnExactSameExpRow.holds Try.pinned (OpenSpec.ofChange fnExactSameExpSpec)

/-- ITS FALSE NEIGHBOUR: 'it returns false'. Refute it at one input. -/
def fnExactSameExpWrong : ChangeSpec := { name := "fnExactSameExp", fn := fun _ => fun
  | [d1, d2] => { results := [.lit (.bool false)], args := [d1, d2] }
  | _ => none }
def FnExactSameExpWrongFalsely : Prop := fnExactSameExpRow.holds Try.pinned (OpenSpec.ofChange fnExactSameExpWrong)

/-- 'laws.FnExactIsBare': WHATEVER THE INPUT: true; the input reads as it did. -/
def fnExactIsBareSpec : ChangeSpec := { name := "fnExactIsBare", fn := fun _ => fun
  | [d] => { results := [.lit (.bool true)], args := [d] }
  | _ => none }
def fnExactIsBareRow : OpenClaim := { program := "ytnhdobhfebiggaa", sum := "da73a2a651f9b50c70935ea100fefee00c4c1e412386aa274a120e44246275b5", func := "loop.example/g00471/laws.FnExactIsBare", spec := "fnExactIsBare", unfollowed := true, recurses := true, loops := true, apart := false }
def FnExactIsBareSaid : Prop := fnExactIsBareRow.holds Try.pinned (OpenSpec.ofChange fnExactIsBareSpec)

/-- ITS FALSE NEIGHBOUR: 'it returns false'. Refute it at one input. -/
def fnExactIsBareWrong : ChangeSpec := { name := "fnExactIsBare", fn := fun _ => fun
  | [d] => { results := [.lit (.bool false)], args := [d] }
  | _ => none }
def FnExactIsBareWrongFalsely : Prop := fnExactIsBareRow.holds Try.pinned (OpenSpec.ofChange fnExactIsBareWrong)

/-- 'laws.FnLex': WHATEVER THE INPUT: true; the input reads as it did. -/
def fnLexSpec : ChangeSpec := { name := "fnLex", fn := fun _ => fun
  | [d] => { results := [.lit (.bool true)], args := [d] }
  | _ => none }
def fnLexRow : OpenClaim := { program := "ytnhdobhfebiggaa", sum := "da73a2a651f9b50c70935ea100fefee00c4c1e412386aa274a120e44246275b5", func := "loop.example/g00471/laws.FnLex", spec := "fnLex", inPlace := ["internal/abi.NoEscape", "internal/bytealg.MakeNoZero"], unfollowed := true, recurses := true, apart := false }
def FnLexSaid : Prop := fnLexRow.holds Try.pinned (OpenSpec.ofChange fnLexSpec)

/-- ITS FALSE NEIGHBOUR: 'it returns false'. Refute it at one input. -/
def fnLexWrong : ChangeSpec := { name := "fnLex", fn := fun _ => fun
  | [d] => { results := [.lit (.bool false)], args := [d] }
  | _ => none }
def FnLexWrongFalsely : Prop := fnLexRow.holds Try.pinned (OpenSpec.ofChange fnLexWrong)

/-- 'laws.FnExactDataOf': WHATEVER THE INPUT: true; the input reads as it did. -/
def fnExactDataOfSpec : ChangeSpec := { name := "fnExactDataOf", fn := fun _ => fun
  | [d1, d2] => { results := [.lit (.bool true)], args := [d1, d2] }
  | _ => none }
def fnExactDataOfRow : OpenClaim := { program := "ytnhdobhfebiggaa", sum := "da73a2a651f9b50c70935ea100fefee00c4c1e412386aa274a120e44246275b5", func := "loop.example/g00471/laws.FnExactDataOf", spec := "fnExactDataOf", recurses := true, loops := true, apart := false }
def FnExactDataOfSaid : Prop := fnExactDataOfRow.holds Try.pinned (OpenSpec.ofChange fnExactDataOfSpec)

/-- ITS FALSE NEIGHBOUR: 'it returns false'. Refute it at one input. -/
def fnExactDataOfWrong : ChangeSpec := { name := "fnExactDataOf", fn := fun _ => fun
  | [d1, d2] => { results := [.lit (.bool false)], args := [d1, d2] }
  | _ => none }
def FnExactDataOfWrongFalsely : Prop := fnExactDataOfRow.holds Try.pinned (OpenSpec.ofChange fnExactDataOfWrong)

/-- 'laws.FnExactArityOf': WHATEVER THE INPUT: true; the input reads as it did. -/
def fnExactArityOfSpec : ChangeSpec := { name := "fnExactArityOf", fn := fun _ => fun
  | [d1, d2] => { results := [.lit (.bool true)], args := [d1, d2] }
  | _ => none }
def fnExactArityOfRow : OpenClaim := { program := "ytnhdobhfebiggaa", sum := "da73a2a651f9b50c70935ea100fefee00c4c1e412386aa274a120e44246275b5", func := "loop.example/g00471/laws.FnExactArityOf", spec := "fnExactArityOf", recurses := true, loops := true, apart := false }
def FnExactArityOfSaid : Prop := fnExactArityOfRow.holds Try.pinned (OpenSpec.ofChange fnExactArityOfSpec)

/-- ITS FALSE NEIGHBOUR: 'it returns false'. Refute it at one input. -/
def fnExactArityOfWrong : ChangeSpec := { name := "fnExactArityOf", fn := fun _ => fun
  | [d1, d2] => { results := [.lit (.bool false)], args := [d1, d2] }
  | _ => none }
def FnExactArityOfWrongFalsely : Prop := fnExactArityOfRow.holds Try.pinned (OpenSpec.ofChange fnExactArityOfWrong)

/-- 'laws.FnExactSameProg': WHATEVER THE INPUT: true; the input reads as it did. -/
def fnExactSameProgSpec : ChangeSpec := { name := "fnExactSameProg", fn := fun _ => fun
  | [d1, d2] => { results := [.lit (.bool true)], args := [d1, d2] }
  | _ => none }
def fnExactSameProgRow : OpenClaim := { program := "ytnhdobhfebiggaa", sum := "da73a2a651f9b50c70935ea100fefee00c4c1e412386aa274a120e44246275b5", func := "loop.example/g00471/laws.FnExactSameProg", spec := "fnExactSameProg", unfollowed := true, recurses := true, loops := true, apart := false }
def FnExactSameProgSaid : Prop := fnExactSameProgRow.holds Try.pinned (OpenSpec.ofChange fnExactSameProgSpec)

/-- ITS FALSE NEIGHBOUR: 'it returns false'. Refute it at one input. -/
def fnExactSameProgWrong : ChangeSpec := { name := "fnExactSameProg", fn := fun _ => fun
  | [d1, d2] => { results := [.lit (.bool false)], args := [d1, d2] }
  | _ => none }
def FnExactSameProgWrongFalsely : Prop := fnExactSameProgRow.holds Try.pinned (OpenSpec.ofChange fnExactSameProgWrong)

/- THE SECOND FORM. 'bulk': how many values and letters a reading holds, each counted each time it is reached (what is shared counts as often as it is met; a slice's spare places count too). A statement '..UptoSaid' is the law's where the arguments, and the package variables that the reading takes, are together of bulk at most 1048576: NARROWER than '..Said'. Prove '..Said' where nothing that the law and all that it calls make is longer than what came in: it says more and counts as full. Else prove '..UptoSaid'. A law counts once. -/
mutual
def uptoBulk {H : Type} : DataW H → Nat
  | .lit (.string bytes) => bytes.length + 1
  | .lit _ => 1
  | .nil => 1
  | .ptr d => uptoBulk d + 1
  | .slice elems spare => uptoBulkAll elems + uptoBulkAll spare + 1
  | .agg parts => uptoBulkAll parts + 1
  | .iface _ d => uptoBulk d + 1
  | .map entries => uptoBulkEntries entries + 1
  | .held _ => 1
def uptoBulkAll {H : Type} : List (DataW H) → Nat
  | [] => 0
  | d :: r => uptoBulk d + uptoBulkAll r
def uptoBulkEntries {H : Type} : List (Lit × DataW H) → Nat
  | [] => 0
  | x :: r => uptoBulkEntry x + uptoBulkEntries r
def uptoBulkEntry {H : Type} : Lit × DataW H → Nat
  | (.string bytes, d) => bytes.length + uptoBulk d + 1
  | (_, d) => uptoBulk d + 1
 end
def uptoSmall : (H : Type) → List (DataW H) → Bool := fun _ ds => decide (uptoBulkAll ds ≤ 1048576)
def OpenSpec.upto (s : _root_.Go.ChangeSpec) : _root_.Go.OpenSpec := { _root_.Go.OpenSpec.ofChange s with cond := some uptoSmall }

/-- 'laws.FnExactSameTy', WHERE WHAT IT READS IS OF BULK AT MOST 1048576: true; the input reads as it did. -/
def fnExactSameTyUptoRow : OpenClaim := { program := "ytnhdobhfebiggaa", sum := "da73a2a651f9b50c70935ea100fefee00c4c1e412386aa274a120e44246275b5", func := "loop.example/g00471/laws.FnExactSameTy", spec := "fnExactSameTy", unfollowed := true, recurses := true, loops := true, apart := false, narrowed := true }
def FnExactSameTyUptoSaid : Prop := fnExactSameTyUptoRow.holds Try.pinned (OpenSpec.upto fnExactSameTySpec)

/-- 'laws.FnExactBlocks', WHERE WHAT IT READS IS OF BULK AT MOST 1048576: true; the input reads as it did. -/
def fnExactBlocksUptoRow : OpenClaim := { program := "ytnhdobhfebiggaa", sum := "da73a2a651f9b50c70935ea100fefee00c4c1e412386aa274a120e44246275b5", func := "loop.example/g00471/laws.FnExactBlocks", spec := "fnExactBlocks", unfollowed := true, recurses := true, apart := false, narrowed := true }
def FnExactBlocksUptoSaid : Prop := fnExactBlocksUptoRow.holds Try.pinned (OpenSpec.upto fnExactBlocksSpec)

/-- 'laws.FnExactVarsOf', WHERE WHAT IT READS IS OF BULK AT MOST 1048576: true; the input reads as it did. -/
def fnExactVarsOfUptoRow : OpenClaim := { program := "ytnhdobhfebiggaa", sum := "da73a2a651f9b50c70935ea100fefee00c4c1e412386aa274a120e44246275b5", func := "loop.example/g00471/laws.FnExactVarsOf", spec := "fnExactVarsOf", recurses := true, loops := true, apart := false, narrowed := true }
def FnExactVarsOfUptoSaid : Prop := fnExactVarsOfUptoRow.holds Try.pinned (OpenSpec.upto fnExactVarsOfSpec)

/-- 'laws.FnExactLex', WHERE WHAT IT READS IS OF BULK AT MOST 1048576: true; the input reads as it did. -/
def fnExactLexUptoRow : OpenClaim := { program := "ytnhdobhfebiggaa", sum := "da73a2a651f9b50c70935ea100fefee00c4c1e412386aa274a120e44246275b5", func := "loop.example/g00471/laws.FnExactLex", spec := "fnExactLex", unfollowed := true, recurses := true, apart := false, narrowed := true }
def FnExactLexUptoSaid : Prop := fnExactLexUptoRow.holds Try.pinned (OpenSpec.upto fnExactLexSpec)

/-- 'laws.FnExactSameExp', WHERE WHAT IT READS IS OF BULK AT MOST 1048576: true; the input reads as it did. -/
def fnExactSameExpUptoRow : OpenClaim := { program := "ytnhdobhfebiggaa", sum := "da73a2a651f9b50c70935ea100fefee00c4c1e412386aa274a120e44246275b5", func := "loop.example/g00471/laws.FnExactSameExp", spec := "fnExactSameExp", unfollowed := true, recurses := true, loops := true, apart := false, narrowed := true }
def FnExactSameExpUptoSaid : Prop := fnExactSameExpUptoRow.holds Try.pinned (OpenSpec.upto fnExactSameExpSpec)

/-- 'laws.FnExactIsBare', WHERE WHAT IT READS IS OF BULK AT MOST 1048576: true; the input reads as it did. -/
def fnExactIsBareUptoRow : OpenClaim := { program := "ytnhdobhfebiggaa", sum := "da73a2a651f9b50c70935ea100fefee00c4c1e412386aa274a120e44246275b5", func := "loop.example/g00471/laws.FnExactIsBare", spec := "fnExactIsBare", unfollowed := true, recurses := true, loops := true, apart := false, narrowed := true }
def FnExactIsBareUptoSaid : Prop := fnExactIsBareUptoRow.holds Try.pinned (OpenSpec.upto fnExactIsBareSpec)

/-- 'laws.FnLex', WHERE WHAT IT READS IS OF BULK AT MOST 1048576: true; the input reads as it did. -/
def fnLexUptoRow : OpenClaim := { program := "ytnhdobhfebiggaa", sum := "da73a2a651f9b50c70935ea100fefee00c4c1e412386aa274a120e44246275b5", func := "loop.example/g00471/laws.FnLex", spec := "fnLex", inPlace := ["internal/abi.NoEscape", "internal/bytealg.MakeNoZero"], unfollowed := true, recurses := true, apart := false, narrowed := true }
def FnLexUptoSaid : Prop := fnLexUptoRow.holds Try.pinned (OpenSpec.upto fnLexSpec)

/-- 'laws.FnExactDataOf', WHERE WHAT IT READS IS OF BULK AT MOST 1048576: true; the input reads as it did. -/
def fnExactDataOfUptoRow : OpenClaim := { program := "ytnhdobhfebiggaa", sum := "da73a2a651f9b50c70935ea100fefee00c4c1e412386aa274a120e44246275b5", func := "loop.example/g00471/laws.FnExactDataOf", spec := "fnExactDataOf", recurses := true, loops := true, apart := false, narrowed := true }
def FnExactDataOfUptoSaid : Prop := fnExactDataOfUptoRow.holds Try.pinned (OpenSpec.upto fnExactDataOfSpec)

/-- 'laws.FnExactArityOf', WHERE WHAT IT READS IS OF BULK AT MOST 1048576: true; the input reads as it did. -/
def fnExactArityOfUptoRow : OpenClaim := { program := "ytnhdobhfebiggaa", sum := "da73a2a651f9b50c70935ea100fefee00c4c1e412386aa274a120e44246275b5", func := "loop.example/g00471/laws.FnExactArityOf", spec := "fnExactArityOf", recurses := true, loops := true, apart := false, narrowed := true }
def FnExactArityOfUptoSaid : Prop := fnExactArityOfUptoRow.holds Try.pinned (OpenSpec.upto fnExactArityOfSpec)

/-- 'laws.FnExactSameProg', WHERE WHAT IT READS IS OF BULK AT MOST 1048576: true; the input reads as it did. -/
def fnExactSameProgUptoRow : OpenClaim := { program := "ytnhdobhfebiggaa", sum := "da73a2a651f9b50c70935ea100fefee00c4c1e412386aa274a120e44246275b5", func := "loop.example/g00471/laws.FnExactSameProg", spec := "fnExactSameProg", unfollowed := true, recurses := true, loops := true, apart := false, narrowed := true }
def FnExactSameProgUptoSaid : Prop := fnExactSameProgUptoRow.holds Try.pinned (OpenSpec.upto fnExactSameProgSpec)

end Rows
end Go.Proofs.Ytnhdobhfebiggaa
