/- CSV: the document's Parse. -/
import Derived.Test.YteidmimpkipcfaaDoorCC3
namespace Go.Proofs.YteidmimpkipcfaaDoor.Flow
open Go

end Go.Proofs.YteidmimpkipcfaaDoor.Flow
