/- The laws of packet: their example. -/
import Derived.Test.YtbcphdbcdjdfpaaDoorZDSp
import Derived.Test.YtbcphdbcdjdfpaaDoorZDP17
namespace Go.Proofs.YtbcphdbcdjdfpaaDoor.S
open Go.RowKit Go.Proofs.YtbcphdbcdjdfpaaDoor.P Go.Proofs.YtbcphdbcdjdfpaaDoorW.PrintWords Go.Proofs.YtbcphdbcdjdfpaaDoorW.PrintLast Go.Proofs.YtbcphdbcdjdfpaaDoorW.PrintMore Go.Proofs.YtbcphdbcdjdfpaaDoor.M
set_option maxRecDepth 100000 in
theorem awake07 : Ev (fun k => bucketlinelaw07_awake.f k) true := Ev.of bucketlinelaw07_awake.mono (k := 200) (by decide +kernel)
theorem awake07' : Ev (fun k => (bucketlinelaw07_awake.f k).bind fun t => some t) true := Ev.bind awake07 (Ev.now _)
end Go.Proofs.YtbcphdbcdjdfpaaDoor.S
