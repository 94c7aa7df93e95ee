/- Not in this seat. -/
import Derived.Test.YtaepgjjmfopiiaaDoorBase
import Derived.Test.YtaepgjjmfopiiaaDoorConf0
namespace Go.Proofs.YtaepgjjmfopiiaaDoor
set_option linter.unusedSimpArgs false
set_option linter.unusedVariables false
--GONE Flock
end Go.Proofs.YtaepgjjmfopiiaaDoor
