/- below.both's why; a symbolic walk. -/
-- TYPESA
import Derived.Test.YtnclmjbkkgghhaaDoorHP4
set_option linter.unusedVariables false
set_option linter.unusedSimpArgs false
namespace Go.Proofs.YtnclmjbkkgghhaaDoor
open Go.RowKit Go.Sw

end Go.Proofs.YtnclmjbkkgghhaaDoor
