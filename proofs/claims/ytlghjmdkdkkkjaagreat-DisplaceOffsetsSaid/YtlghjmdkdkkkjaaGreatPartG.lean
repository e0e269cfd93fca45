/- A part of a proof: an abstract machine for the given program, and what it says of it. No condition. -/
import Derived.Test.YtlghjmdkdkkkjaaGreatPartF
open Go Go.E
namespace Go.Proofs.YtlghjmdkdkkkjaaGreat
set_option maxRecDepth 1000000
/-- A known call (3380 operations). -/
theorem m1 : evalT Cf t0 60 90 a1 = some r1 := by kernel_rfl
/-- A known call (876 operations). -/
theorem m2 : evalT Cf t1 60 61 a2 = some r2 := by kernel_rfl
/-- A known call (193 operations). -/
theorem m3 : evalT Cf t2 60 47 a3 = some r3 := by kernel_rfl
/-- A known call (857 operations). -/
theorem m4 : evalT Cf t3 60 92 a4 = some r4 := by kernel_rfl
/-- A known call (1649 operations). -/
theorem m5 : evalT Cf t4 60 62 a5 = some r5 := by kernel_rfl
end Go.Proofs.YtlghjmdkdkkkjaaGreat
