/- The contract of finishes. Conditions: none. -/
import Derived.Test.YtkmganophcklgaaMw
namespace Go.Proofs.Ytkmganophcklgaa
open Go.RowKit
open Fl
set_option maxHeartbeats 400000 in
theorem fin_one : levelP 1056964608 0 255 = 128 := by decide +kernel
end Go.Proofs.Ytkmganophcklgaa
