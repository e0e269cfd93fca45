/- A part of a proof: an abstract machine for the given program, and what it says of it. No condition. -/
import Derived.Test.YtlghjmdkdkkkjaaGreatPartF
open Go Go.E
namespace Go.Proofs.YtlghjmdkdkkkjaaGreat
set_option maxRecDepth 1000000
/-- A known call (529 operations). -/
theorem m107 : evalT Cf t106 60 50 a107 = some r107 := by kernel_rfl
/-- A known call (14 operations). -/
theorem m108 : evalT Cf t107 60 19 a108 = some r108 := by kernel_rfl
/-- A known call (574 operations). -/
theorem m109 : evalT Cf t108 60 12 a109 = some r109 := by kernel_rfl
/-- A known call (1674 operations). -/
theorem m110 : evalT Cf t109 60 18 a110 = some r110 := by kernel_rfl
/-- A known call (875 operations). -/
theorem m111 : evalT Cf t110 60 11 a111 = some r111 := by kernel_rfl
/-- A known call (323 operations). -/
theorem m112 : evalT Cf t111 60 18 a112 = some r112 := by kernel_rfl
/-- A known call (875 operations). -/
theorem m113 : evalT Cf t112 60 11 a113 = some r113 := by kernel_rfl
/-- A known call (404 operations). -/
theorem m114 : evalT Cf t113 60 7 a114 = some r114 := by kernel_rfl
end Go.Proofs.YtlghjmdkdkkkjaaGreat
