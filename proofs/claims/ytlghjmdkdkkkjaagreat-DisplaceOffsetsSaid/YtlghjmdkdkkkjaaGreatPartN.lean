/- A part of a proof: an abstract machine for the given program, and what it says of it. No condition. -/
import Derived.Test.YtlghjmdkdkkkjaaGreatPartF
open Go Go.E
namespace Go.Proofs.YtlghjmdkdkkkjaaGreat
set_option maxRecDepth 1000000
/-- A known call (560 operations). -/
theorem m74 : evalT Cf t73 60 18 a74 = some r74 := by kernel_rfl
/-- A known call (399 operations). -/
theorem m75 : evalT Cf t74 60 18 a75 = some r75 := by kernel_rfl
/-- A known call (75 operations). -/
theorem m76 : evalT Cf t75 60 18 a76 = some r76 := by kernel_rfl
/-- A known call (75 operations). -/
theorem m77 : evalT Cf t76 60 18 a77 = some r77 := by kernel_rfl
/-- A known call (75 operations). -/
theorem m78 : evalT Cf t77 60 18 a78 = some r78 := by kernel_rfl
/-- A known call (75 operations). -/
theorem m79 : evalT Cf t78 60 18 a79 = some r79 := by kernel_rfl
/-- A known call (323 operations). -/
theorem m80 : evalT Cf t79 60 18 a80 = some r80 := by kernel_rfl
/-- A known call (162 operations). -/
theorem m81 : evalT Cf t80 60 18 a81 = some r81 := by kernel_rfl
/-- A known call (162 operations). -/
theorem m82 : evalT Cf t81 60 18 a82 = some r82 := by kernel_rfl
/-- A known call (75 operations). -/
theorem m83 : evalT Cf t82 60 18 a83 = some r83 := by kernel_rfl
/-- A known call (162 operations). -/
theorem m84 : evalT Cf t83 60 18 a84 = some r84 := by kernel_rfl
/-- A known call (75 operations). -/
theorem m85 : evalT Cf t84 60 18 a85 = some r85 := by kernel_rfl
/-- A known call (162 operations). -/
theorem m86 : evalT Cf t85 60 18 a86 = some r86 := by kernel_rfl
/-- A known call (75 operations). -/
theorem m87 : evalT Cf t86 60 18 a87 = some r87 := by kernel_rfl
/-- A known call (162 operations). -/
theorem m88 : evalT Cf t87 60 18 a88 = some r88 := by kernel_rfl
/-- A known call (75 operations). -/
theorem m89 : evalT Cf t88 60 18 a89 = some r89 := by kernel_rfl
/-- A known call (162 operations). -/
theorem m90 : evalT Cf t89 60 18 a90 = some r90 := by kernel_rfl
/-- A known call (469 operations). -/
theorem m91 : evalT Cf t90 60 18 a91 = some r91 := by kernel_rfl
/-- A known call (399 operations). -/
theorem m92 : evalT Cf t91 60 18 a92 = some r92 := by kernel_rfl
/-- A known call (308 operations). -/
theorem m93 : evalT Cf t92 60 18 a93 = some r93 := by kernel_rfl
/-- A known call (308 operations). -/
theorem m94 : evalT Cf t93 60 18 a94 = some r94 := by kernel_rfl
/-- A known call (636 operations). -/
theorem m95 : evalT Cf t94 60 18 a95 = some r95 := by kernel_rfl
/-- A known call (399 operations). -/
theorem m96 : evalT Cf t95 60 18 a96 = some r96 := by kernel_rfl
/-- A known call (399 operations). -/
theorem m97 : evalT Cf t96 60 18 a97 = some r97 := by kernel_rfl
/-- A known call (238 operations). -/
theorem m98 : evalT Cf t97 60 18 a98 = some r98 := by kernel_rfl
/-- A known call (238 operations). -/
theorem m99 : evalT Cf t98 60 18 a99 = some r99 := by kernel_rfl
end Go.Proofs.YtlghjmdkdkkkjaaGreat
