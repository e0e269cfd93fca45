/- A part of a proof: an abstract machine for the given program, and what it says of it. No condition. -/
import Derived.Test.YtlghjmdkdkkkjaaGreatPartF
open Go Go.E
namespace Go.Proofs.YtlghjmdkdkkkjaaGreat
set_option maxRecDepth 1000000
/-- A known call (323 operations). -/
theorem m31 : evalT Cf t30 60 18 a31 = some r31 := by kernel_rfl
/-- A known call (323 operations). -/
theorem m32 : evalT Cf t31 60 18 a32 = some r32 := by kernel_rfl
/-- A known call (323 operations). -/
theorem m33 : evalT Cf t32 60 18 a33 = some r33 := by kernel_rfl
/-- A known call (323 operations). -/
theorem m34 : evalT Cf t33 60 18 a34 = some r34 := by kernel_rfl
/-- A known call (1674 operations). -/
theorem m35 : evalT Cf t34 60 18 a35 = some r35 := by kernel_rfl
/-- A known call (3026 operations). -/
theorem m36 : evalT Cf t35 60 9 a36 = some r36 := by kernel_rfl
end Go.Proofs.YtlghjmdkdkkkjaaGreat
