/- Part 14 of the proof: words, and printed contracts of functions. -/
import Derived.ChangeSlices
import Derived.SizedLaws
set_option linter.unusedVariables false
set_option linter.unusedSimpArgs false
