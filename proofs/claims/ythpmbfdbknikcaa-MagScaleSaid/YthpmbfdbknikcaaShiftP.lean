/- The contracts of package shift over 128 bits: moved over 2 parts. -/
import Derived.Test.YthpmbfdbknikcaaShift
set_option linter.unusedVariables false
set_option linter.unusedSimpArgs false
namespace Go.Proofs.Ythpmbfdbknikcaa
open Go.RowKit

end Go.Proofs.Ythpmbfdbknikcaa
