import Derived.Test.YtcgjkfpkbhhkfaaGreatDoorGx
import Derived.KernelRfl
set_option linter.unusedVariables false
set_option linter.unusedSimpArgs false
set_option linter.unusedSectionVars false
namespace Go.Ev
open Go.Proofs
theorem s42_6 : cutRun Tryz.prog F X2 101121 ⟨s42_5_fr, [], ⟨setL .leaf s42_5_l, Q 18324⟩⟩ (keys s42_6_l) = some (s42_6_fr, Q 20920, s42_6_l) := by kernel_rfl
theorem s42_6_fine : cutFine (keys m42.ks) (keys s42_6_l) s42_6_fr s42_6_l = true := by kernel_rfl
theorem s42_last : lastOk Tryz.prog F X2 m42 56439 ⟨s42_6_fr, [], ⟨setL .leaf s42_6_l, Q 20920⟩⟩ = true := by kernel_rfl
theorem m43_shut : memoShut m43 = true := by kernel_rfl
theorem m43_run : MemoRun Tryz.prog F X3 m43 := memoRun_of_ok (by kernel_rfl)
theorem gb0_ok : ((List.range' 0 64).all fun k => bi (memoOk Tryz.prog F X6 (gbM k)) (memoShut (gbM k)) false) = true := by kernel_rfl
theorem gb64_ok : ((List.range' 64 64).all fun k => bi (memoOk Tryz.prog F X6 (gbM k)) (memoShut (gbM k)) false) = true := by kernel_rfl
theorem gb128_ok : ((List.range' 128 64).all fun k => bi (memoOk Tryz.prog F X6 (gbM k)) (memoShut (gbM k)) false) = true := by kernel_rfl
theorem gb192_ok : ((List.range' 192 64).all fun k => bi (memoOk Tryz.prog F X6 (gbM k)) (memoShut (gbM k)) false) = true := by kernel_rfl
end Go.Ev
