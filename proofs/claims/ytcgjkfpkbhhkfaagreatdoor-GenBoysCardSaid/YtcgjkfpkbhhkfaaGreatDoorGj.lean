import Derived.Test.YtcgjkfpkbhhkfaaGreatDoorGx
import Derived.Test.YtcgjkfpkbhhkfaaGreatDoorGk0
import Derived.Test.YtcgjkfpkbhhkfaaGreatDoorGk1
import Derived.Test.YtcgjkfpkbhhkfaaGreatDoorGk2
import Derived.Test.YtcgjkfpkbhhkfaaGreatDoorGk3
import Derived.Test.YtcgjkfpkbhhkfaaGreatDoorGk4
import Derived.Test.YtcgjkfpkbhhkfaaGreatDoorGk5
import Derived.Test.YtcgjkfpkbhhkfaaGreatDoorGk6
import Derived.Test.YtcgjkfpkbhhkfaaGreatDoorGk7
import Derived.Test.YtcgjkfpkbhhkfaaGreatDoorGk8
import Derived.Test.YtcgjkfpkbhhkfaaGreatDoorGk9
import Derived.Test.YtcgjkfpkbhhkfaaGreatDoorGk10
import Derived.Test.YtcgjkfpkbhhkfaaGreatDoorGk11
import Derived.Test.YtcgjkfpkbhhkfaaGreatDoorGk12
import Derived.Test.YtcgjkfpkbhhkfaaGreatDoorGk13
set_option linter.unusedVariables false
set_option linter.unusedSimpArgs false
set_option linter.unusedSectionVars false
namespace Go.Ev
open Go.Proofs
theorem m12_run : MemoRun Tryz.prog F X2 m12 := runs_first s12_0 s12_0_fine (runs_last s12_last)
theorem m27_run : MemoRun Tryz.prog F X2 m27 := runs_first s27_0 s27_0_fine (runs_last s27_last)
theorem m32_run : MemoRun Tryz.prog F X2 m32 := runs_first s32_0 s32_0_fine (runs_last s32_last)
theorem m37_run : MemoRun Tryz.prog F X2 m37 := runs_first s37_0 s37_0_fine (runs_more s37_1 s37_1_fine (runs_last s37_last))
theorem m42_run : MemoRun Tryz.prog F X2 m42 := runs_first s42_0 s42_0_fine (runs_more s42_1 s42_1_fine (runs_more s42_2 s42_2_fine (runs_more s42_3 s42_3_fine (runs_more s42_4 s42_4_fine (runs_more s42_5 s42_5_fine (runs_more s42_6 s42_6_fine (runs_last s42_last)))))))
theorem ms48_ok : ∀ m ∈ ms48, m.f = 48 ∧ MemoRun Tryz.prog F X0 m ∧ memoShut m = true := by
  intro m hm
  simp only [ms48, List.mem_cons, List.not_mem_nil, or_false] at hm
  rcases hm with rfl | rfl | rfl | rfl | rfl | rfl | rfl | rfl | rfl
  · exact ⟨rfl, m2_run, m2_shut⟩
  · exact ⟨rfl, m6_run, m6_shut⟩
  · exact ⟨rfl, m11_run, m11_shut⟩
  · exact ⟨rfl, m15_run, m15_shut⟩
  · exact ⟨rfl, m21_run, m21_shut⟩
  · exact ⟨rfl, m26_run, m26_shut⟩
  · exact ⟨rfl, m31_run, m31_shut⟩
  · exact ⟨rfl, m36_run, m36_shut⟩
  · exact ⟨rfl, m41_run, m41_shut⟩
theorem ms7_ok : ∀ m ∈ ms7, m.f = 7 ∧ MemoRun Tryz.prog F X1 m ∧ memoShut m = true := by
  intro m hm
  simp only [ms7, List.mem_cons, List.not_mem_nil, or_false] at hm
  rcases hm with rfl | rfl | rfl | rfl | rfl | rfl | rfl | rfl | rfl
  · exact ⟨rfl, m1_run, m1_shut⟩
  · exact ⟨rfl, m5_run, m5_shut⟩
  · exact ⟨rfl, m10_run, m10_shut⟩
  · exact ⟨rfl, m14_run, m14_shut⟩
  · exact ⟨rfl, m20_run, m20_shut⟩
  · exact ⟨rfl, m25_run, m25_shut⟩
  · exact ⟨rfl, m30_run, m30_shut⟩
  · exact ⟨rfl, m35_run, m35_shut⟩
  · exact ⟨rfl, m40_run, m40_shut⟩
theorem ms26_ok : ∀ m ∈ ms26, m.f = 26 ∧ MemoRun Tryz.prog F X2 m ∧ memoShut m = true := by
  intro m hm
  simp only [ms26, List.mem_cons, List.not_mem_nil, or_false] at hm
  rcases hm with rfl | rfl | rfl | rfl | rfl | rfl | rfl | rfl | rfl
  · exact ⟨rfl, m3_run, m3_shut⟩
  · exact ⟨rfl, m7_run, m7_shut⟩
  · exact ⟨rfl, m12_run, m12_shut⟩
  · exact ⟨rfl, m16_run, m16_shut⟩
  · exact ⟨rfl, m22_run, m22_shut⟩
  · exact ⟨rfl, m27_run, m27_shut⟩
  · exact ⟨rfl, m32_run, m32_shut⟩
  · exact ⟨rfl, m37_run, m37_shut⟩
  · exact ⟨rfl, m42_run, m42_shut⟩
theorem ms4_ok : ∀ m ∈ ms4, m.f = 4 ∧ MemoRun Tryz.prog F X3 m ∧ memoShut m = true := by
  intro m hm
  simp only [ms4, List.mem_cons, List.not_mem_nil, or_false] at hm
  rcases hm with rfl | rfl | rfl | rfl | rfl | rfl | rfl | rfl | rfl
  · exact ⟨rfl, m4_run, m4_shut⟩
  · exact ⟨rfl, m8_run, m8_shut⟩
  · exact ⟨rfl, m13_run, m13_shut⟩
  · exact ⟨rfl, m17_run, m17_shut⟩
  · exact ⟨rfl, m23_run, m23_shut⟩
  · exact ⟨rfl, m28_run, m28_shut⟩
  · exact ⟨rfl, m33_run, m33_shut⟩
  · exact ⟨rfl, m38_run, m38_shut⟩
  · exact ⟨rfl, m43_run, m43_shut⟩
theorem ms5_ok : ∀ m ∈ ms5, m.f = 5 ∧ MemoRun Tryz.prog F X4 m ∧ memoShut m = true := by
  intro m hm
  simp only [ms5, List.mem_cons, List.not_mem_nil, or_false] at hm
  rcases hm with rfl | rfl | rfl | rfl | rfl | rfl | rfl
  · exact ⟨rfl, m0_run, m0_shut⟩
  · exact ⟨rfl, m9_run, m9_shut⟩
  · exact ⟨rfl, m19_run, m19_shut⟩
  · exact ⟨rfl, m24_run, m24_shut⟩
  · exact ⟨rfl, m29_run, m29_shut⟩
  · exact ⟨rfl, m34_run, m34_shut⟩
  · exact ⟨rfl, m39_run, m39_shut⟩
theorem ms6_ok : ∀ m ∈ ms6, m.f = 6 ∧ MemoRun Tryz.prog F X5 m ∧ memoShut m = true := by
  intro m hm
  simp only [ms6, List.mem_cons, List.not_mem_nil, or_false] at hm
  subst hm
  · exact ⟨rfl, m18_run, m18_shut⟩
end Go.Ev
