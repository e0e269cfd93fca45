/- A part of a proof: an abstract machine for the given program, and what it says of it. No condition. -/
import Derived.Test.YtlghjmdkdkkkjaaGreatPartF
open Go Go.E
namespace Go.Proofs.YtlghjmdkdkkkjaaGreat
set_option maxRecDepth 1000000
/-- A known call (3380 operations). -/
theorem m102 : evalT Cf t101 60 90 a102 = some r102 := by kernel_rfl
/-- A known call (876 operations). -/
theorem m103 : evalT Cf t102 60 61 a103 = some r103 := by kernel_rfl
/-- A known call (193 operations). -/
theorem m104 : evalT Cf t103 60 47 a104 = some r104 := by kernel_rfl
/-- A known call (857 operations). -/
theorem m105 : evalT Cf t104 60 92 a105 = some r105 := by kernel_rfl
/-- A known call (1649 operations). -/
theorem m106 : evalT Cf t105 60 62 a106 = some r106 := by kernel_rfl
end Go.Proofs.YtlghjmdkdkkkjaaGreat
