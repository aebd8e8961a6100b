/- The plain law OverloadTimedAttempts, under the name that the printed row asks for. -/
import Derived.Test.YtpmkbpphlokbjaaGTx3b
import Derived.Test.YtpmkbpphlokbjaaQTimed
namespace Go.Proofs.Ytpmkbpphlokbjaa.Pure
open Go.RowKit Go.Proofs.Ytpmkbpphlokbjaa.GT Go.Proofs.YtpmkbpphlokbjaaW.PrintWords Go.Proofs.YtpmkbpphlokbjaaW.PrintLast
theorem OverloadTimedAttempts : crossbarlaw32_OverloadTimedAttempts.Pure := pure_OverloadTimedAttempts
end Go.Proofs.Ytpmkbpphlokbjaa.Pure
