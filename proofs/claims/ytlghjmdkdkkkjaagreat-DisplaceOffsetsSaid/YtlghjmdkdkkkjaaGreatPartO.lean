/- A part of a proof: an abstract machine for the given program, and what it says of it. No condition. -/
import Derived.Test.YtlghjmdkdkkkjaaGreatPartF
open Go Go.E
namespace Go.Proofs.YtlghjmdkdkkkjaaGreat
set_option maxRecDepth 1000000
/-- A known call (3863 operations). -/
theorem m100 : evalT Cf t99 60 9 a100 = some r100 := by kernel_rfl
/-- A known call (120 operations). -/
theorem m101 : evalT Cf t100 60 9 a101 = some r101 := by kernel_rfl
end Go.Proofs.YtlghjmdkdkkkjaaGreat
