/- A part of a proof: an abstract machine for the given program, and what it says of it. No condition. -/
import Derived.Test.YtlghjmdkdkkkjaaGreatPartF
open Go Go.E
namespace Go.Proofs.YtlghjmdkdkkkjaaGreat
set_option maxRecDepth 1000000
/-- A known call (529 operations). -/
theorem m6 : evalT Cf t5 60 50 a6 = some r6 := by kernel_rfl
/-- A known call (14 operations). -/
theorem m7 : evalT Cf t6 60 19 a7 = some r7 := by kernel_rfl
/-- A known call (574 operations). -/
theorem m8 : evalT Cf t7 60 12 a8 = some r8 := by kernel_rfl
/-- A known call (3075 operations). -/
theorem m9 : evalT Cf t8 60 90 a9 = some r9 := by kernel_rfl
/-- A known call (763 operations). -/
theorem m10 : evalT Cf t9 60 61 a10 = some r10 := by kernel_rfl
/-- A known call (193 operations). -/
theorem m11 : evalT Cf t10 60 47 a11 = some r11 := by kernel_rfl
/-- A known call (694 operations). -/
theorem m12 : evalT Cf t11 60 92 a12 = some r12 := by kernel_rfl
end Go.Proofs.YtlghjmdkdkkkjaaGreat
