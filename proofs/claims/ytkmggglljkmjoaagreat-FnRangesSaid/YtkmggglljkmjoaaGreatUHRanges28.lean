/- m -/
import Derived.Test.YtkmggglljkmjoaaGreatUHRanges26
namespace Go.Proofs.YtkmggglljkmjoaaGreat
open Go.RowKit
end Go.Proofs.YtkmggglljkmjoaaGreat
