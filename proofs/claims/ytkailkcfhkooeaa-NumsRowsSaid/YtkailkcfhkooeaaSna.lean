/- The laws of nums: what they come to is true. -/
import Derived.Test.YtkailkcfhkooeaaSn
import Derived.Test.YtkailkcfhkooeaaP5
namespace Go.Proofs.Ytkailkcfhkooeaa.S
open Go.RowKit Go.Proofs.Ytkailkcfhkooeaa.P Go.Proofs.YtkailkcfhkooeaaW.PrintWords Go.Proofs.YtkailkcfhkooeaaW.PrintLast Go.Proofs.YtkailkcfhkooeaaW.PrintMore Go.Proofs.Ytkailkcfhkooeaa.M
set_option maxRecDepth 100000 in
theorem awake06 : Ev (fun k => bucketlinelaw06_awake.f k) true := Ev.of bucketlinelaw06_awake.mono (k := 40) (by decide +kernel)
theorem awake06' : Ev (fun k => (bucketlinelaw06_awake.f k).bind fun t => some t) true := Ev.bind awake06 (Ev.now _)
end Go.Proofs.Ytkailkcfhkooeaa.S
