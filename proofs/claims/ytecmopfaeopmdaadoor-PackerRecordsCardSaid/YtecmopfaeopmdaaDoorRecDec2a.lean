/- The walk of record.Decode: version other than 1. -/
import Derived.Test.YtecmopfaeopmdaaDoorRecDec
namespace Go.Proofs.YtecmopfaeopmdaaDoor
open Go.RowKit



end Go.Proofs.YtecmopfaeopmdaaDoor
