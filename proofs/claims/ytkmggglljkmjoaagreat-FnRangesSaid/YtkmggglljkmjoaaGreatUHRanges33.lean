/- m -/
import Derived.Test.YtkmggglljkmjoaaGreatUHRanges28
namespace Go.Proofs.YtkmggglljkmjoaaGreat
open Go.RowKit
end Go.Proofs.YtkmggglljkmjoaaGreat
