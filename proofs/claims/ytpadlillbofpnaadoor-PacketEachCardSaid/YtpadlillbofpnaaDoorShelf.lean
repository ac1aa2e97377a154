/- The library's math/bits at this dump, off the kit's shelf, in plain words (written by the kit's lay-plain tool, kept by name). -/
import Derived.Shelf.Small.Bits
import Derived.Test.YtpadlillbofpnaaDoorProg
namespace Go.Proofs.YtpadlillbofpnaaDoor
set_option linter.unusedVariables false
set_option linter.unusedSimpArgs false
open Go.Shelf
end Go.Proofs.YtpadlillbofpnaaDoor
