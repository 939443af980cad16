/- HL: what code asks for, step by step. -/
import Derived.Test.YtamneeogomklgaaGreatHLVc
set_option linter.unusedSimpArgs false
set_option linter.unusedVariables false
set_option linter.unusedSectionVars false
namespace HL
open Go
def oP {α : Type} (o : Option α) (k : α → Prop) : Prop := match o with
  | some a => k a
  | none => False
def aP (o : Option HV) (kp ke : HV → Prop) : Prop := match o with
  | some (.ptr a b c d) => kp (.ptr a b c d)
  | some (.eptr a b c d) => ke (.eptr a b c d)
  | _ => False
def ptrP (o : Option HV) (kp : Nat → Nat → Nat → Nat → Prop) (ke : List HV → Nat → Nat → Nat → Prop) : Prop := match o with
  | some (.ptr a b c d) => kp a b c d
  | some (.eptr a b c d) => ke a b c d
  | _ => False
def boolP (o : Option HV) (k : Bool → Prop) (u : Prop) : Prop := match o with
  | some (.bool b) => k b
  | some (.tup []) => u
  | _ => False
def intP (o : Option HV) (k : IntKind → Int → Prop) : Prop := match o with
  | some (.int a b) => k a b
  | _ => False
def strP (o : Option HV) (k : ByteArray → Prop) : Prop := match o with
  | some (.str a) => k a
  | _ => False
def fnP (o : Option HV) (k : FuncId → List HV → List HV → Prop) : Prop := match o with
  | some (.fn a b c) => k a b c
  | _ => False
def slP (o : Option HV) (kn : Prop) (ks : List HV → Prop) (ko : Nat → Nat → Prop) : Prop := match o with
  | some .nils => kn
  | some (.sl l) => ks l
  | some (.own a b) => ko a b
  | _ => False
def arrP (o : Option HO) (k : Nat → List HV → Bool → Prop) : Prop := match o with
  | some (.arr a b c) => k a b c
  | _ => False
def tupP (o : Option HV) (k : List HV → Prop) : Prop := match o with
  | some (.tup a) => k a
  | _ => False
def aggP (o : Option HV) (k : List HV → Prop) : Prop := match o with
  | some (.agg a) => k a
  | _ => False
def bP (b : Bool) (x y : Prop) : Prop := (b = true → x) ∧ (b = false → y)
section
variable {P : Program} {N : Nat} {fz : Bool} {env : Env} {st : St}
end
end HL
