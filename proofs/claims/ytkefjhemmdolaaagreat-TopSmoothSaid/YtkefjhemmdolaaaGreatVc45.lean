/- A part of the proof: general laws of a reading of the model by abstract data, or contracts of the functions that the law calls. -/
import Derived.Test.YtkefjhemmdolaaaGreatVc30
import Derived.Test.YtkefjhemmdolaaaGreatVc24
set_option maxRecDepth 100000
namespace Go.Vc
open Go Go.Proofs
variable {g : GG}
end Go.Vc

namespace Go.Vc
open Go Go.Proofs
variable {g : GG}
end Go.Vc

namespace Go.Vc
open Go Go.Proofs
variable {g : GG}
attribute [local simp] and_assoc vc_differ_end_k0 vc_differ_end_k1 vc_differ_rows_k0 vc_differ_rows_k1 vc_differ_rows_k2 vc_differ_rows_k3 
end Go.Vc
