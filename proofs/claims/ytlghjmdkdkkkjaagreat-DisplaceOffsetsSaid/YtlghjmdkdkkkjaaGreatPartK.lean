/- A part of a proof: an abstract machine for the given program, and what it says of it. No condition. -/
import Derived.Test.YtlghjmdkdkkkjaaGreatPartF
open Go Go.E
namespace Go.Proofs.YtlghjmdkdkkkjaaGreat
set_option maxRecDepth 1000000
/-- A known call (3380 operations). -/
theorem m37 : evalT Cf t36 60 90 a37 = some r37 := by kernel_rfl
/-- A known call (876 operations). -/
theorem m38 : evalT Cf t37 60 61 a38 = some r38 := by kernel_rfl
/-- A known call (193 operations). -/
theorem m39 : evalT Cf t38 60 47 a39 = some r39 := by kernel_rfl
/-- A known call (857 operations). -/
theorem m40 : evalT Cf t39 60 92 a40 = some r40 := by kernel_rfl
/-- A known call (1649 operations). -/
theorem m41 : evalT Cf t40 60 62 a41 = some r41 := by kernel_rfl
end Go.Proofs.YtlghjmdkdkkkjaaGreat
