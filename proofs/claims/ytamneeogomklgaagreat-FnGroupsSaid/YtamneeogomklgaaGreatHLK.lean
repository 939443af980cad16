/- HL: steps whose rest stands still until a value is there. Nothing of a seat is named here. -/
import Derived.Test.YtamneeogomklgaaGreatHLH
set_option linter.unusedSimpArgs false
set_option linter.unusedVariables false
set_option linter.unusedSectionVars false
namespace HL
open Go
section
variable {P : Program} {fz : Bool} {env : Env} {st : St}
end
end HL
