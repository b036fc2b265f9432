/- The plain law of TaintKnown: the chapter's examples, computed. -/
import Derived.Test.YtfhmepdbbhcncaaPx23
namespace Go.Proofs.Ytfhmepdbbhcncaa.Pure
open Go.RowKit Go.Proofs.Ytfhmepdbbhcncaa.P Go.Proofs.YtfhmepdbbhcncaaW.PrintWords Go.Proofs.YtfhmepdbbhcncaaW.PrintLast

set_option maxRecDepth 100000 in
theorem TaintKnown : forecourtlaw05_TaintKnown.Pure := ⟨10, by decide +kernel⟩
end Go.Proofs.Ytfhmepdbbhcncaa.Pure
