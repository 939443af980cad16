/- HL: the tactic that goes through code. -/
import Derived.Test.YtamneeogomklgaaGreatHLStep
set_option linter.unusedSimpArgs false
set_option linter.unusedVariables false
set_option linter.unusedSectionVars false
namespace HL
open Go
theorem cells_agg (l : List HV) : (HV.agg l).cells = l := rfl
end HL
