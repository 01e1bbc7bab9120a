/- Seat 08: the fixed calls; SectorTells. -/
import Derived.Test.YtfajnpnmghbdpaaH
namespace Go.Proofs.Ytfajnpnmghbdpaa
open Go.AX
set_option maxRecDepth 100000

abbrev Sq : Specs := [(7, C_sl), (8, C_rsl), (9, C_opn), (10, C_ropn)]
theorem Sq_ok : SpecsOk Try.prog Sq := .cons csl_ok (.cons crsl_ok (.cons copn_ok (.cons cropn_ok (.nil _))))

theorem alive_run  : runF (envOf tab Sq [] [] []) true Try.f6 [] [] =some ([AV.dat (D.bool true)], []) := by kernel_rfl

end Go.Proofs.Ytfajnpnmghbdpaa
