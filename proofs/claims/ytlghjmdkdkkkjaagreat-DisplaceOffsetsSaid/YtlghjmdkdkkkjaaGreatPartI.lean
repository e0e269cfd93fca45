/- A part of a proof: an abstract machine for the given program, and what it says of it. No condition. -/
import Derived.Test.YtlghjmdkdkkkjaaGreatPartF
open Go Go.E
namespace Go.Proofs.YtlghjmdkdkkkjaaGreat
set_option maxRecDepth 1000000
/-- A known call (1294 operations). -/
theorem m13 : evalT Cf t12 60 62 a13 = some r13 := by kernel_rfl
/-- A known call (529 operations). -/
theorem m14 : evalT Cf t13 60 50 a14 = some r14 := by kernel_rfl
/-- A known call (323 operations). -/
theorem m15 : evalT Cf t14 60 18 a15 = some r15 := by kernel_rfl
/-- A known call (323 operations). -/
theorem m16 : evalT Cf t15 60 18 a16 = some r16 := by kernel_rfl
/-- A known call (323 operations). -/
theorem m17 : evalT Cf t16 60 18 a17 = some r17 := by kernel_rfl
/-- A known call (323 operations). -/
theorem m18 : evalT Cf t17 60 18 a18 = some r18 := by kernel_rfl
/-- A known call (323 operations). -/
theorem m19 : evalT Cf t18 60 18 a19 = some r19 := by kernel_rfl
/-- A known call (323 operations). -/
theorem m20 : evalT Cf t19 60 18 a20 = some r20 := by kernel_rfl
/-- A known call (323 operations). -/
theorem m21 : evalT Cf t20 60 18 a21 = some r21 := by kernel_rfl
/-- A known call (323 operations). -/
theorem m22 : evalT Cf t21 60 18 a22 = some r22 := by kernel_rfl
/-- A known call (323 operations). -/
theorem m23 : evalT Cf t22 60 18 a23 = some r23 := by kernel_rfl
/-- A known call (323 operations). -/
theorem m24 : evalT Cf t23 60 18 a24 = some r24 := by kernel_rfl
/-- A known call (323 operations). -/
theorem m25 : evalT Cf t24 60 18 a25 = some r25 := by kernel_rfl
/-- A known call (323 operations). -/
theorem m26 : evalT Cf t25 60 18 a26 = some r26 := by kernel_rfl
/-- A known call (323 operations). -/
theorem m27 : evalT Cf t26 60 18 a27 = some r27 := by kernel_rfl
/-- A known call (323 operations). -/
theorem m28 : evalT Cf t27 60 18 a28 = some r28 := by kernel_rfl
/-- A known call (323 operations). -/
theorem m29 : evalT Cf t28 60 18 a29 = some r29 := by kernel_rfl
/-- A known call (323 operations). -/
theorem m30 : evalT Cf t29 60 18 a30 = some r30 := by kernel_rfl
end Go.Proofs.YtlghjmdkdkkkjaaGreat
