/- m -/
import Derived.Test.YtkmggglljkmjoaaGreatUHRanges4
namespace Go.Proofs.YtkmggglljkmjoaaGreat
open Go.RowKit
theorem Tryz.infoSList : (Tryz.prog.info? 94).map (fun i=> (i.zero,i.size,i.bytes)) =some (some (.agg #[.slice none 0 0]),FS.n,24) :=by kernel_rfl
theorem Tryz.infoLList : (Tryz.prog.info? 123).map (fun i=> (i.zero,i.size,i.bytes)) =some (some (.agg #[.slice none 0 0]),FS.n,24) :=by kernel_rfl
theorem Tryz.infoPin : (Tryz.prog.info? 120).map (fun i=> (i.zero,i.size,i.bytes)) =some (some (.agg #[.bool false, .int .i64 0, .bool false, .int .i64 0]),iP.n,32) :=by kernel_rfl
end Go.Proofs.YtkmggglljkmjoaaGreat
