/- Not in this seat. -/
import Derived.Test.YtbjcajhbhicokaaBase
import Derived.Test.YtbjcajhbhicokaaConf0
namespace Go.Proofs.Ytbjcajhbhicokaa
set_option linter.unusedSimpArgs false
set_option linter.unusedVariables false
--GONE Scarecrow
end Go.Proofs.Ytbjcajhbhicokaa
