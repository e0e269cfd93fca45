/- A part of a proof: an abstract machine for the given program, and what it says of it. No condition. -/
import Derived.Test.YtlghjmdkdkkkjaaGreatPartF
open Go Go.E
namespace Go.Proofs.YtlghjmdkdkkkjaaGreat
set_option maxRecDepth 1000000
/-- A known call (1294 operations). -/
theorem m49 : evalT Cf t48 60 62 a49 = some r49 := by kernel_rfl
/-- A known call (529 operations). -/
theorem m50 : evalT Cf t49 60 50 a50 = some r50 := by kernel_rfl
/-- A known call (75 operations). -/
theorem m51 : evalT Cf t50 60 18 a51 = some r51 := by kernel_rfl
/-- A known call (75 operations). -/
theorem m52 : evalT Cf t51 60 18 a52 = some r52 := by kernel_rfl
/-- A known call (75 operations). -/
theorem m53 : evalT Cf t52 60 18 a53 = some r53 := by kernel_rfl
/-- A known call (323 operations). -/
theorem m54 : evalT Cf t53 60 18 a54 = some r54 := by kernel_rfl
/-- A known call (75 operations). -/
theorem m55 : evalT Cf t54 60 18 a55 = some r55 := by kernel_rfl
/-- A known call (323 operations). -/
theorem m56 : evalT Cf t55 60 18 a56 = some r56 := by kernel_rfl
/-- A known call (75 operations). -/
theorem m57 : evalT Cf t56 60 18 a57 = some r57 := by kernel_rfl
/-- A known call (75 operations). -/
theorem m58 : evalT Cf t57 60 18 a58 = some r58 := by kernel_rfl
/-- A known call (323 operations). -/
theorem m59 : evalT Cf t58 60 18 a59 = some r59 := by kernel_rfl
/-- A known call (75 operations). -/
theorem m60 : evalT Cf t59 60 18 a60 = some r60 := by kernel_rfl
/-- A known call (75 operations). -/
theorem m61 : evalT Cf t60 60 18 a61 = some r61 := by kernel_rfl
/-- A known call (75 operations). -/
theorem m62 : evalT Cf t61 60 18 a62 = some r62 := by kernel_rfl
/-- A known call (323 operations). -/
theorem m63 : evalT Cf t62 60 18 a63 = some r63 := by kernel_rfl
/-- A known call (162 operations). -/
theorem m64 : evalT Cf t63 60 18 a64 = some r64 := by kernel_rfl
/-- A known call (75 operations). -/
theorem m65 : evalT Cf t64 60 18 a65 = some r65 := by kernel_rfl
/-- A known call (162 operations). -/
theorem m66 : evalT Cf t65 60 18 a66 = some r66 := by kernel_rfl
/-- A known call (75 operations). -/
theorem m67 : evalT Cf t66 60 18 a67 = some r67 := by kernel_rfl
/-- A known call (162 operations). -/
theorem m68 : evalT Cf t67 60 18 a68 = some r68 := by kernel_rfl
/-- A known call (75 operations). -/
theorem m69 : evalT Cf t68 60 18 a69 = some r69 := by kernel_rfl
/-- A known call (162 operations). -/
theorem m70 : evalT Cf t69 60 18 a70 = some r70 := by kernel_rfl
/-- A known call (469 operations). -/
theorem m71 : evalT Cf t70 60 18 a71 = some r71 := by kernel_rfl
/-- A known call (797 operations). -/
theorem m72 : evalT Cf t71 60 18 a72 = some r72 := by kernel_rfl
/-- A known call (560 operations). -/
theorem m73 : evalT Cf t72 60 18 a73 = some r73 := by kernel_rfl
end Go.Proofs.YtlghjmdkdkkkjaaGreat
