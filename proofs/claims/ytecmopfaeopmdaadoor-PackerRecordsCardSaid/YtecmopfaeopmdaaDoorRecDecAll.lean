/- record.Decode. -/
import Derived.Test.YtecmopfaeopmdaaDoorRecDec1a
import Derived.Test.YtecmopfaeopmdaaDoorRecDec1b
import Derived.Test.YtecmopfaeopmdaaDoorRecDec1c
import Derived.Test.YtecmopfaeopmdaaDoorRecDec2a
import Derived.Test.YtecmopfaeopmdaaDoorRecDec2b
import Derived.Test.YtecmopfaeopmdaaDoorRecDec2c
namespace Go.Proofs.YtecmopfaeopmdaaDoor
open Go.RowKit

end Go.Proofs.YtecmopfaeopmdaaDoor
