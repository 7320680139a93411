/- math/bits.Len64 walked. -/
import Derived.Test.YtckaohkhknoocaaRows
import Derived.Lib.Strings
import Derived.Lib.Slices
import Derived.Lib.Small
import Derived.Lib.Walk
import Derived.Lib.BitFns
set_option linter.unusedVariables false
set_option linter.unusedSimpArgs false
namespace Go.Proofs.Ytckaohkhknoocaa

end Go.Proofs.Ytckaohkhknoocaa
