/- What the functions answer that are proved by hand: who needs whom, as the document has it. Plain. -/
import Derived.Test.YtamneeogomklgaaGreatGTy
import Derived.Test.YtamneeogomklgaaGreatHLP
import Derived.Test.YtamneeogomklgaaGreatGGraph
set_option linter.unusedSimpArgs false
set_option linter.unusedVariables false
set_option linter.unusedSectionVars false
namespace W
open Go HL HL.X
def compactB (l : List ByteArray) : List ByteArray := strsL (Lib.compact (bytesL l))
def underB : ByteArray := ⟨⟨[95]⟩⟩
def memB (s : ByteArray) (l : List ByteArray) : Bool := l.any fun y => decide (y = s)
def nmB (l : List Dec) : List ByteArray := l.map Dec.Name
mutual
def frE (x : ByteArray) : Exp → Bool
  | .mk k s _ l ds as => bif decide (k = 1) then decide (x = s) && !decide (x = underB) else
    (frEs x l && !(decide (k = 5) && decide (x = s)) && !(decide (k = 6) && memB x (nmB ds))) || (decide (k = 6) && frDs x ds && !memB x (nmB ds)) || (decide (k = 7) && frAs x as)
def frEs (x : ByteArray) : List Exp → Bool
  | [] => false
  | e :: l => frE x e || frEs x l
def frAs (x : ByteArray) : List Alt → Bool
  | [] => false
  | a :: l => frA x a || frAs x l
def frA (x : ByteArray) : Alt → Bool
  | .mk _ vs e => frE x e && !memB x vs
def frD (x : ByteArray) : Dec → Bool
  | .mk _ ps e ws => (frE x e || frDs x ws) && !memB x (nmB ws) && !memB x ps
def frDs (x : ByteArray) : List Dec → Bool
  | [] => false
  | d :: l => frD x d || frDs x l
end
def needB (l : List Dec) (a b : ByteArray) : Bool := match l.find? fun d => decide (d.Name = a) with
  | none => false
  | some d => frD b d && memB b (nmB l)
def onceB : List ByteArray → List ByteArray → List ByteArray
  | out, [] => out
  | out, s :: l => onceB (if memB s out = true then out else out ++ [s]) l
def rowsB (l : List Dec) (ns : List ByteArray) : List (List Bool) := ns.map fun a => ns.map fun b => needB l a b
def l8B (l : List Dec) : spec_l8Web := let ns := onceB [] (nmB l)
  ⟨ns, Q.closeTo (rowsB l ns) ns.length⟩
mutual
def Alt.cost : Alt → Nat
  | ⟨Great_, Vars_, E_⟩ => Great_.size + (Vars_.length + sumC ByteArray.size Vars_) + Exp.cost E_
def Alt.costL : List Alt → Nat
  | [] => 0
  | x :: l => x.cost + Alt.costL l
def Dec.cost : Dec → Nat
  | ⟨Name_, Pars_, E_, Where_⟩ => Name_.size + (Pars_.length + sumC ByteArray.size Pars_) + Exp.cost E_ + (Where_.length + Dec.costL Where_)
def Dec.costL : List Dec → Nat
  | [] => 0
  | x :: l => x.cost + Dec.costL l
def Exp.cost : Exp → Nat
  | ⟨K_, S_, N_, L_, Decs_, Alts_⟩ => S_.size + (L_.length + Exp.costL L_) + (Decs_.length + Dec.costL Decs_) + (Alts_.length + Alt.costL Alts_)
def Exp.costL : List Exp → Nat
  | [] => 0
  | x :: l => x.cost + Exp.costL l
end
def smB (l : List Dec) : Bool := decide (l.length ≤ 1000) && l.all fun d => decide (d.cost ≤ 500000)
def l8M (l : List Dec) : Option spec_l8Web := bif smB l then some (l8B l) else none
end W
