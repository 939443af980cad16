/- HX: what the library's functions on lists of strings answer. Nothing of a seat is named here. -/
import Derived.Test.YtamneeogomklgaaGreatHXc
import Derived.Lib.SlicesCompact
set_option linter.unusedSimpArgs false
set_option linter.unusedVariables false
set_option linter.unusedSectionVars false
namespace HL
namespace X
open Go
def bytesL (l : List ByteArray) : List (List UInt8) := l.map fun s => s.data.toList
def strsL (l : List (List UInt8)) : List ByteArray := l.map fun z => ⟨z.toArray⟩
def sortB (l : List ByteArray) : List (List UInt8) := (bytesL l).mergeSort fun x y => decide (x ≤ y)
def sortedB (l : List ByteArray) : List ByteArray := strsL (Lib.compact (sortB l))
def growB (n : Int) (l : List ByteArray) : Option (List ByteArray) := bif decide (l = []) && (decide (0 ≤ n) && decide (n ≤ 1099511627776)) then some [] else none
end X
end HL
