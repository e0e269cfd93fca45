/- The statement is proved: for every input the law answers true. No condition. -/
import Derived.Test.YtlghjmdkdkkkjaaGreatPartE
import Derived.Test.YtlghjmdkdkkkjaaGreatPartG
import Derived.Test.YtlghjmdkdkkkjaaGreatPartH
import Derived.Test.YtlghjmdkdkkkjaaGreatPartI
import Derived.Test.YtlghjmdkdkkkjaaGreatPartJ
import Derived.Test.YtlghjmdkdkkkjaaGreatPartK
import Derived.Test.YtlghjmdkdkkkjaaGreatPartL
import Derived.Test.YtlghjmdkdkkkjaaGreatPartM
import Derived.Test.YtlghjmdkdkkkjaaGreatPartN
import Derived.Test.YtlghjmdkdkkkjaaGreatPartO
import Derived.Test.YtlghjmdkdkkkjaaGreatPartP
import Derived.Test.YtlghjmdkdkkkjaaGreatPartQ
open Go Go.E
namespace Go.Proofs.YtlghjmdkdkkkjaaGreat
theorem t1_ok : CallOK Cf t1 := addTab_ok t0_ok (evalT_ok (code_ok prim_collect) t0_ok 60) m1
theorem t2_ok : CallOK Cf t2 := addTab_ok t1_ok (evalT_ok (code_ok prim_collect) t1_ok 60) m2
theorem t3_ok : CallOK Cf t3 := addTab_ok t2_ok (evalT_ok (code_ok prim_collect) t2_ok 60) m3
theorem t4_ok : CallOK Cf t4 := addTab_ok t3_ok (evalT_ok (code_ok prim_collect) t3_ok 60) m4
theorem t5_ok : CallOK Cf t5 := addTab_ok t4_ok (evalT_ok (code_ok prim_collect) t4_ok 60) m5
theorem t6_ok : CallOK Cf t6 := addTab_ok t5_ok (evalT_ok (code_ok prim_collect) t5_ok 60) m6
theorem t7_ok : CallOK Cf t7 := addTab_ok t6_ok (evalT_ok (code_ok prim_collect) t6_ok 60) m7
theorem t8_ok : CallOK Cf t8 := addTab_ok t7_ok (evalT_ok (code_ok prim_collect) t7_ok 60) m8
theorem t9_ok : CallOK Cf t9 := addTab_ok t8_ok (evalT_ok (code_ok prim_collect) t8_ok 60) m9
theorem t10_ok : CallOK Cf t10 := addTab_ok t9_ok (evalT_ok (code_ok prim_collect) t9_ok 60) m10
theorem t11_ok : CallOK Cf t11 := addTab_ok t10_ok (evalT_ok (code_ok prim_collect) t10_ok 60) m11
theorem t12_ok : CallOK Cf t12 := addTab_ok t11_ok (evalT_ok (code_ok prim_collect) t11_ok 60) m12
theorem t13_ok : CallOK Cf t13 := addTab_ok t12_ok (evalT_ok (code_ok prim_collect) t12_ok 60) m13
theorem t14_ok : CallOK Cf t14 := addTab_ok t13_ok (evalT_ok (code_ok prim_collect) t13_ok 60) m14
theorem t15_ok : CallOK Cf t15 := addTab_ok t14_ok (evalT_ok (code_ok prim_collect) t14_ok 60) m15
theorem t16_ok : CallOK Cf t16 := addTab_ok t15_ok (evalT_ok (code_ok prim_collect) t15_ok 60) m16
theorem t17_ok : CallOK Cf t17 := addTab_ok t16_ok (evalT_ok (code_ok prim_collect) t16_ok 60) m17
theorem t18_ok : CallOK Cf t18 := addTab_ok t17_ok (evalT_ok (code_ok prim_collect) t17_ok 60) m18
theorem t19_ok : CallOK Cf t19 := addTab_ok t18_ok (evalT_ok (code_ok prim_collect) t18_ok 60) m19
theorem t20_ok : CallOK Cf t20 := addTab_ok t19_ok (evalT_ok (code_ok prim_collect) t19_ok 60) m20
theorem t21_ok : CallOK Cf t21 := addTab_ok t20_ok (evalT_ok (code_ok prim_collect) t20_ok 60) m21
theorem t22_ok : CallOK Cf t22 := addTab_ok t21_ok (evalT_ok (code_ok prim_collect) t21_ok 60) m22
theorem t23_ok : CallOK Cf t23 := addTab_ok t22_ok (evalT_ok (code_ok prim_collect) t22_ok 60) m23
theorem t24_ok : CallOK Cf t24 := addTab_ok t23_ok (evalT_ok (code_ok prim_collect) t23_ok 60) m24
theorem t25_ok : CallOK Cf t25 := addTab_ok t24_ok (evalT_ok (code_ok prim_collect) t24_ok 60) m25
theorem t26_ok : CallOK Cf t26 := addTab_ok t25_ok (evalT_ok (code_ok prim_collect) t25_ok 60) m26
theorem t27_ok : CallOK Cf t27 := addTab_ok t26_ok (evalT_ok (code_ok prim_collect) t26_ok 60) m27
theorem t28_ok : CallOK Cf t28 := addTab_ok t27_ok (evalT_ok (code_ok prim_collect) t27_ok 60) m28
theorem t29_ok : CallOK Cf t29 := addTab_ok t28_ok (evalT_ok (code_ok prim_collect) t28_ok 60) m29
theorem t30_ok : CallOK Cf t30 := addTab_ok t29_ok (evalT_ok (code_ok prim_collect) t29_ok 60) m30
theorem t31_ok : CallOK Cf t31 := addTab_ok t30_ok (evalT_ok (code_ok prim_collect) t30_ok 60) m31
theorem t32_ok : CallOK Cf t32 := addTab_ok t31_ok (evalT_ok (code_ok prim_collect) t31_ok 60) m32
theorem t33_ok : CallOK Cf t33 := addTab_ok t32_ok (evalT_ok (code_ok prim_collect) t32_ok 60) m33
theorem t34_ok : CallOK Cf t34 := addTab_ok t33_ok (evalT_ok (code_ok prim_collect) t33_ok 60) m34
theorem t35_ok : CallOK Cf t35 := addTab_ok t34_ok (evalT_ok (code_ok prim_collect) t34_ok 60) m35
theorem t36_ok : CallOK Cf t36 := addTab_ok t35_ok (evalT_ok (code_ok prim_collect) t35_ok 60) m36
theorem t37_ok : CallOK Cf t37 := addTab_ok t36_ok (evalT_ok (code_ok prim_collect) t36_ok 60) m37
theorem t38_ok : CallOK Cf t38 := addTab_ok t37_ok (evalT_ok (code_ok prim_collect) t37_ok 60) m38
theorem t39_ok : CallOK Cf t39 := addTab_ok t38_ok (evalT_ok (code_ok prim_collect) t38_ok 60) m39
theorem t40_ok : CallOK Cf t40 := addTab_ok t39_ok (evalT_ok (code_ok prim_collect) t39_ok 60) m40
theorem t41_ok : CallOK Cf t41 := addTab_ok t40_ok (evalT_ok (code_ok prim_collect) t40_ok 60) m41
theorem t42_ok : CallOK Cf t42 := addTab_ok t41_ok (evalT_ok (code_ok prim_collect) t41_ok 60) m42
theorem t43_ok : CallOK Cf t43 := addTab_ok t42_ok (evalT_ok (code_ok prim_collect) t42_ok 60) m43
theorem t44_ok : CallOK Cf t44 := addTab_ok t43_ok (evalT_ok (code_ok prim_collect) t43_ok 60) m44
theorem t45_ok : CallOK Cf t45 := addTab_ok t44_ok (evalT_ok (code_ok prim_collect) t44_ok 60) m45
theorem t46_ok : CallOK Cf t46 := addTab_ok t45_ok (evalT_ok (code_ok prim_collect) t45_ok 60) m46
theorem t47_ok : CallOK Cf t47 := addTab_ok t46_ok (evalT_ok (code_ok prim_collect) t46_ok 60) m47
theorem t48_ok : CallOK Cf t48 := addTab_ok t47_ok (evalT_ok (code_ok prim_collect) t47_ok 60) m48
theorem t49_ok : CallOK Cf t49 := addTab_ok t48_ok (evalT_ok (code_ok prim_collect) t48_ok 60) m49
theorem t50_ok : CallOK Cf t50 := addTab_ok t49_ok (evalT_ok (code_ok prim_collect) t49_ok 60) m50
theorem t51_ok : CallOK Cf t51 := addTab_ok t50_ok (evalT_ok (code_ok prim_collect) t50_ok 60) m51
theorem t52_ok : CallOK Cf t52 := addTab_ok t51_ok (evalT_ok (code_ok prim_collect) t51_ok 60) m52
theorem t53_ok : CallOK Cf t53 := addTab_ok t52_ok (evalT_ok (code_ok prim_collect) t52_ok 60) m53
theorem t54_ok : CallOK Cf t54 := addTab_ok t53_ok (evalT_ok (code_ok prim_collect) t53_ok 60) m54
theorem t55_ok : CallOK Cf t55 := addTab_ok t54_ok (evalT_ok (code_ok prim_collect) t54_ok 60) m55
theorem t56_ok : CallOK Cf t56 := addTab_ok t55_ok (evalT_ok (code_ok prim_collect) t55_ok 60) m56
theorem t57_ok : CallOK Cf t57 := addTab_ok t56_ok (evalT_ok (code_ok prim_collect) t56_ok 60) m57
theorem t58_ok : CallOK Cf t58 := addTab_ok t57_ok (evalT_ok (code_ok prim_collect) t57_ok 60) m58
theorem t59_ok : CallOK Cf t59 := addTab_ok t58_ok (evalT_ok (code_ok prim_collect) t58_ok 60) m59
theorem t60_ok : CallOK Cf t60 := addTab_ok t59_ok (evalT_ok (code_ok prim_collect) t59_ok 60) m60
theorem t61_ok : CallOK Cf t61 := addTab_ok t60_ok (evalT_ok (code_ok prim_collect) t60_ok 60) m61
theorem t62_ok : CallOK Cf t62 := addTab_ok t61_ok (evalT_ok (code_ok prim_collect) t61_ok 60) m62
theorem t63_ok : CallOK Cf t63 := addTab_ok t62_ok (evalT_ok (code_ok prim_collect) t62_ok 60) m63
theorem t64_ok : CallOK Cf t64 := addTab_ok t63_ok (evalT_ok (code_ok prim_collect) t63_ok 60) m64
theorem t65_ok : CallOK Cf t65 := addTab_ok t64_ok (evalT_ok (code_ok prim_collect) t64_ok 60) m65
theorem t66_ok : CallOK Cf t66 := addTab_ok t65_ok (evalT_ok (code_ok prim_collect) t65_ok 60) m66
theorem t67_ok : CallOK Cf t67 := addTab_ok t66_ok (evalT_ok (code_ok prim_collect) t66_ok 60) m67
theorem t68_ok : CallOK Cf t68 := addTab_ok t67_ok (evalT_ok (code_ok prim_collect) t67_ok 60) m68
theorem t69_ok : CallOK Cf t69 := addTab_ok t68_ok (evalT_ok (code_ok prim_collect) t68_ok 60) m69
theorem t70_ok : CallOK Cf t70 := addTab_ok t69_ok (evalT_ok (code_ok prim_collect) t69_ok 60) m70
theorem t71_ok : CallOK Cf t71 := addTab_ok t70_ok (evalT_ok (code_ok prim_collect) t70_ok 60) m71
theorem t72_ok : CallOK Cf t72 := addTab_ok t71_ok (evalT_ok (code_ok prim_collect) t71_ok 60) m72
theorem t73_ok : CallOK Cf t73 := addTab_ok t72_ok (evalT_ok (code_ok prim_collect) t72_ok 60) m73
theorem t74_ok : CallOK Cf t74 := addTab_ok t73_ok (evalT_ok (code_ok prim_collect) t73_ok 60) m74
theorem t75_ok : CallOK Cf t75 := addTab_ok t74_ok (evalT_ok (code_ok prim_collect) t74_ok 60) m75
theorem t76_ok : CallOK Cf t76 := addTab_ok t75_ok (evalT_ok (code_ok prim_collect) t75_ok 60) m76
theorem t77_ok : CallOK Cf t77 := addTab_ok t76_ok (evalT_ok (code_ok prim_collect) t76_ok 60) m77
theorem t78_ok : CallOK Cf t78 := addTab_ok t77_ok (evalT_ok (code_ok prim_collect) t77_ok 60) m78
theorem t79_ok : CallOK Cf t79 := addTab_ok t78_ok (evalT_ok (code_ok prim_collect) t78_ok 60) m79
theorem t80_ok : CallOK Cf t80 := addTab_ok t79_ok (evalT_ok (code_ok prim_collect) t79_ok 60) m80
theorem t81_ok : CallOK Cf t81 := addTab_ok t80_ok (evalT_ok (code_ok prim_collect) t80_ok 60) m81
theorem t82_ok : CallOK Cf t82 := addTab_ok t81_ok (evalT_ok (code_ok prim_collect) t81_ok 60) m82
theorem t83_ok : CallOK Cf t83 := addTab_ok t82_ok (evalT_ok (code_ok prim_collect) t82_ok 60) m83
theorem t84_ok : CallOK Cf t84 := addTab_ok t83_ok (evalT_ok (code_ok prim_collect) t83_ok 60) m84
theorem t85_ok : CallOK Cf t85 := addTab_ok t84_ok (evalT_ok (code_ok prim_collect) t84_ok 60) m85
theorem t86_ok : CallOK Cf t86 := addTab_ok t85_ok (evalT_ok (code_ok prim_collect) t85_ok 60) m86
theorem t87_ok : CallOK Cf t87 := addTab_ok t86_ok (evalT_ok (code_ok prim_collect) t86_ok 60) m87
theorem t88_ok : CallOK Cf t88 := addTab_ok t87_ok (evalT_ok (code_ok prim_collect) t87_ok 60) m88
theorem t89_ok : CallOK Cf t89 := addTab_ok t88_ok (evalT_ok (code_ok prim_collect) t88_ok 60) m89
theorem t90_ok : CallOK Cf t90 := addTab_ok t89_ok (evalT_ok (code_ok prim_collect) t89_ok 60) m90
theorem t91_ok : CallOK Cf t91 := addTab_ok t90_ok (evalT_ok (code_ok prim_collect) t90_ok 60) m91
theorem t92_ok : CallOK Cf t92 := addTab_ok t91_ok (evalT_ok (code_ok prim_collect) t91_ok 60) m92
theorem t93_ok : CallOK Cf t93 := addTab_ok t92_ok (evalT_ok (code_ok prim_collect) t92_ok 60) m93
theorem t94_ok : CallOK Cf t94 := addTab_ok t93_ok (evalT_ok (code_ok prim_collect) t93_ok 60) m94
theorem t95_ok : CallOK Cf t95 := addTab_ok t94_ok (evalT_ok (code_ok prim_collect) t94_ok 60) m95
theorem t96_ok : CallOK Cf t96 := addTab_ok t95_ok (evalT_ok (code_ok prim_collect) t95_ok 60) m96
theorem t97_ok : CallOK Cf t97 := addTab_ok t96_ok (evalT_ok (code_ok prim_collect) t96_ok 60) m97
theorem t98_ok : CallOK Cf t98 := addTab_ok t97_ok (evalT_ok (code_ok prim_collect) t97_ok 60) m98
theorem t99_ok : CallOK Cf t99 := addTab_ok t98_ok (evalT_ok (code_ok prim_collect) t98_ok 60) m99
theorem t100_ok : CallOK Cf t100 := addTab_ok t99_ok (evalT_ok (code_ok prim_collect) t99_ok 60) m100
theorem t101_ok : CallOK Cf t101 := addTab_ok t100_ok (evalT_ok (code_ok prim_collect) t100_ok 60) m101
theorem t102_ok : CallOK Cf t102 := addTab_ok t101_ok (evalT_ok (code_ok prim_collect) t101_ok 60) m102
theorem t103_ok : CallOK Cf t103 := addTab_ok t102_ok (evalT_ok (code_ok prim_collect) t102_ok 60) m103
theorem t104_ok : CallOK Cf t104 := addTab_ok t103_ok (evalT_ok (code_ok prim_collect) t103_ok 60) m104
theorem t105_ok : CallOK Cf t105 := addTab_ok t104_ok (evalT_ok (code_ok prim_collect) t104_ok 60) m105
theorem t106_ok : CallOK Cf t106 := addTab_ok t105_ok (evalT_ok (code_ok prim_collect) t105_ok 60) m106
theorem t107_ok : CallOK Cf t107 := addTab_ok t106_ok (evalT_ok (code_ok prim_collect) t106_ok 60) m107
theorem t108_ok : CallOK Cf t108 := addTab_ok t107_ok (evalT_ok (code_ok prim_collect) t107_ok 60) m108
theorem t109_ok : CallOK Cf t109 := addTab_ok t108_ok (evalT_ok (code_ok prim_collect) t108_ok 60) m109
theorem t110_ok : CallOK Cf t110 := addTab_ok t109_ok (evalT_ok (code_ok prim_collect) t109_ok 60) m110
theorem t111_ok : CallOK Cf t111 := addTab_ok t110_ok (evalT_ok (code_ok prim_collect) t110_ok 60) m111
theorem t112_ok : CallOK Cf t112 := addTab_ok t111_ok (evalT_ok (code_ok prim_collect) t111_ok 60) m112
theorem t113_ok : CallOK Cf t113 := addTab_ok t112_ok (evalT_ok (code_ok prim_collect) t112_ok 60) m113
theorem t114_ok : CallOK Cf t114 := addTab_ok t113_ok (evalT_ok (code_ok prim_collect) t113_ok 60) m114
end Go.Proofs.YtlghjmdkdkkkjaaGreat

open Go Go.E
namespace Go.Proofs.YtlghjmdkdkkkjaaGreat
open Go.ChangeShapes Go.WideShapes Go.ChangeAt Go.RowKit
set_option maxRecDepth 100000
/-- What is known of calls: the law's callees. -/
noncomputable def Q4 : CallF := stepF Cf 100000 geo
noncomputable def Q5 : CallF := stepF Cf 100000 Q4
noncomputable def Q6 : CallF := stepF Cf 2000000 geo
noncomputable def QQ : CallF := fun k args => if k = 7 then t114 k args else if k = 4 then Q4 k args else if k = 5 then Q5 k args else Q6 k args
theorem Q4_ok : CallOK Cf Q4 := stepF_ok (code_ok prim_collect) geo_ok 100000
theorem QQ_ok : CallOK Cf QQ := by
  refine callOK_of fun {k args r} h => ?_
  unfold QQ at h
  split at h
  · exact ⟨_, t114_ok, h⟩
  · split at h
    · exact ⟨_, Q4_ok, h⟩
    · split at h
      · exact ⟨_, stepF_ok (code_ok prim_collect) Q4_ok 100000, h⟩
      · exact ⟨_, stepF_ok (code_ok prim_collect) geo_ok 2000000, h⟩
theorem QQ_awake : QQ 7 [] = some (.bool true, []) := by
  unfold QQ
  rw [if_pos rfl]
  unfold t114
  unfold addTab
  rw [if_pos (by decide), if_pos (by decide)]
  rfl
theorem law_true (n : Nat) (g : Int) : stepF Cf n QQ 3 [vi g] = some (.bool true, [vi g]) := by
  have h4 : ∀ {r}, Q4 4 [vi g] = some r → QQ 4 [vi g] = some r := fun {r} h => by
    unfold QQ
    rw [if_neg (by decide), if_pos rfl]
    exact h
  have h5 : ∀ {r}, Q5 5 [vi g] = some r → QQ 5 [vi g] = some r := fun {r} h => by
    unfold QQ
    rw [if_neg (by decide), if_neg (by decide), if_pos rfl]
    exact h
  have h6 : ∀ (ps : List P2), ps.length ≤ 1100000 → QQ 6 [.v (.sl 2 (ps.map P2.av)), .v (.sl 2 (ps.map P2.av))] = some (.bool true, [.v (.sl 2 (ps.map P2.av)), .v (.sl 2 (ps.map P2.av))]) := fun ps hl => by
    unfold QQ
    rw [if_neg (by decide), if_neg (by decide), if_neg (by decide)]
    exact same_ok geo 2000000 ps (by omega) (by omega)
  by_cases h1 : g < 0
  · have d1 : decide (g < 0) = true := by simpa using h1
    exact law_off QQ n g 2 [] _ _ _ (h4 (off_1 geo 100000 g d1)) (h5 (ref_1 Q4 100000 g d1)) (h6 [] (by simp)) QQ_awake
  · have d1 : decide (g < 0) = false := by simpa using h1
    by_cases h2 : g > 64
    · have d2 : decide (g > 64) = true := by simpa using h2
      exact law_off QQ n g 2 [] _ _ _ (h4 (off_2 geo 100000 g d1 d2)) (h5 (ref_2 Q4 100000 g d1 d2)) (h6 [] (by simp)) QQ_awake
    · obtain ⟨k, rfl⟩ : ∃ k : Nat, g = k := ⟨g.toNat, by omega⟩
      obtain ⟨ps, hp⟩ := allL_pts k
      have hl := allL_len k (by omega)
      have e6 := h6 ps (by rw [hp, List.length_map] at hl; exact hl)
      rw [← hp] at e6
      exact law_off QQ n k 0 (allL k) _ _ _ (h4 (offsets_ok geo k (by omega))) (h5 (roffsets_ok Q4 (fun x => ⟨_, size_ok geo 100000 x⟩) k (by omega))) e6 QQ_awake
theorem offsets_lifted (os : Os) (started : os.Started) (H : Type) (enc : TypeId × Value → H) :
    ReturnsInHanded {} Tryz.checked os 3 .any (Rows.displaceOffsetsSpec.pre6 enc Tryz.prog Tryz.f3 Rows.displaceOffsetsRow.domain false) (Rows.displaceOffsetsSpec.post enc Tryz.prog Tryz.f3 false true false false) := by
  refine law_lifted (s := Rows.displaceOffsetsSpec) started (by kernel_rfl) Tryz.func3 rfl (of_decide_eq_true (by kernel_rfl)) (by kernel_rfl) (by kernel_rfl) ?_
    (ChangeSpec.witness6 (enc := enc) (C := Tryz.checked) false ⟨#[], #[.int .i64 0], []⟩ 8 (by kernel_rfl) (by kernel_rfl) (by kernel_rfl) (by kernel_rfl)) ?_
  · intro ds hl
    rw [Tryz.params3] at hl
    match ds, hl with
    | [a], _ => exact ⟨rfl, rfl, rfl⟩
  · intro xs h
    rw [Tryz.params3] at h
    obtain ⟨u, xs0, rfl, h0, h3⟩ := h
    have h3 : xs0 = [] := h3
    subst h3
    obtain ⟨g, rfl, _⟩ := isT_int h0
    exact ⟨stepF Cf 0 QQ, _, stepF_ok (code_ok prim_collect) QQ_ok 0, law_true 0 g⟩
theorem offsets_holds : Rows.DisplaceOffsetsSaid :=
  OpenClaim.holds_of_wide 3 Tryz.f3 rfl rfl rfl rfl rfl rfl rfl ⟨rfl, rfl, rfl, rfl, rfl⟩ rfl rfl rfl rfl rfl (by kernel_rfl) Tryz.func3 (by kernel_rfl)
    (of_decide_eq_true (by kernel_rfl)) (by unfold Func.isWrapper; first | (rw [if_pos (by decide +kernel)]; kernel_rfl) | (rw [if_neg (by decide +kernel)]; exact ⟨rfl, rfl⟩))
    (fun os started H enc _ => offsets_lifted os started H enc)
#print axioms offsets_holds
end Go.Proofs.YtlghjmdkdkkkjaaGreat
