/- A part of a proof: an abstract machine for the given program, and what it says of it. No condition. -/
import Derived.Test.YtlghjmdkdkkkjaaGreatPartF
open Go Go.E
namespace Go.Proofs.YtlghjmdkdkkkjaaGreat
set_option maxRecDepth 1000000
/-- A known call (529 operations). -/
theorem m42 : evalT Cf t41 60 50 a42 = some r42 := by kernel_rfl
/-- A known call (14 operations). -/
theorem m43 : evalT Cf t42 60 19 a43 = some r43 := by kernel_rfl
/-- A known call (574 operations). -/
theorem m44 : evalT Cf t43 60 12 a44 = some r44 := by kernel_rfl
/-- A known call (3075 operations). -/
theorem m45 : evalT Cf t44 60 90 a45 = some r45 := by kernel_rfl
/-- A known call (763 operations). -/
theorem m46 : evalT Cf t45 60 61 a46 = some r46 := by kernel_rfl
/-- A known call (193 operations). -/
theorem m47 : evalT Cf t46 60 47 a47 = some r47 := by kernel_rfl
/-- A known call (694 operations). -/
theorem m48 : evalT Cf t47 60 92 a48 = some r48 := by kernel_rfl
end Go.Proofs.YtlghjmdkdkkkjaaGreat
