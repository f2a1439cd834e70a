import Derived.Test.YtogabhigkmggiaaGreatDoorMx
import Derived.Test.YtogabhigkmggiaaGreatDoorMk0
import Derived.Test.YtogabhigkmggiaaGreatDoorMk1
import Derived.Test.YtogabhigkmggiaaGreatDoorMk2
import Derived.Test.YtogabhigkmggiaaGreatDoorMk3
import Derived.Test.YtogabhigkmggiaaGreatDoorMk4
import Derived.Test.YtogabhigkmggiaaGreatDoorMk5
import Derived.Test.YtogabhigkmggiaaGreatDoorMk6
import Derived.Test.YtogabhigkmggiaaGreatDoorMk7
import Derived.Test.YtogabhigkmggiaaGreatDoorMk8
import Derived.Test.YtogabhigkmggiaaGreatDoorMk9
import Derived.Test.YtogabhigkmggiaaGreatDoorMk10
import Derived.Test.YtogabhigkmggiaaGreatDoorMk11
import Derived.Test.YtogabhigkmggiaaGreatDoorMk12
import Derived.Test.YtogabhigkmggiaaGreatDoorStd2
import Derived.Shelf.SortM.Plain
import Derived.Shelf.SortM.SortNone
import Derived.Ground.SlgmProg
set_option linter.unusedVariables false
set_option linter.unusedSimpArgs false
set_option linter.unusedSectionVars false
namespace Go.Ev
open Go.Proofs
theorem ms112_ok : ∀ m ∈ ms112, m.f = 112 ∧ memoOk Tryz.prog F X0 m = true ∧ memoShut m = true := by
  intro m hm
  simp only [ms112, List.mem_cons, List.not_mem_nil, or_false] at hm
  rcases hm with rfl | rfl | rfl
  · exact ⟨rfl, m7_ok, m7_shut⟩
  · exact ⟨rfl, m9_ok, m9_shut⟩
  · exact ⟨rfl, m10_ok, m10_shut⟩
theorem ms41_ok : ∀ m ∈ ms41, m.f = 41 ∧ memoOk Tryz.prog F X1 m = true ∧ memoShut m = true := by
  intro m hm
  simp only [ms41, List.mem_cons, List.not_mem_nil, or_false] at hm
  rcases hm with rfl | rfl | rfl | rfl | rfl
  · exact ⟨rfl, m0_ok, m0_shut⟩
  · exact ⟨rfl, m1_ok, m1_shut⟩
  · exact ⟨rfl, m2_ok, m2_shut⟩
  · exact ⟨rfl, m4_ok, m4_shut⟩
  · exact ⟨rfl, m6_ok, m6_shut⟩
theorem ms51_ok : ∀ m ∈ ms51, m.f = 51 ∧ memoOk Tryz.prog F X3 m = true ∧ memoShut m = true := by
  intro m hm
  simp only [ms51, List.mem_cons, List.not_mem_nil, or_false] at hm
  rcases hm with rfl | rfl | rfl | rfl | rfl | rfl | rfl | rfl | rfl | rfl | rfl | rfl | rfl | rfl | rfl | rfl | rfl | rfl | rfl | rfl | rfl | rfl | rfl | rfl | rfl | rfl | rfl | rfl | rfl | rfl | rfl | rfl | rfl | rfl | rfl | rfl
  · exact ⟨rfl, m12_ok, m12_shut⟩
  · exact ⟨rfl, m13_ok, m13_shut⟩
  · exact ⟨rfl, m14_ok, m14_shut⟩
  · exact ⟨rfl, m15_ok, m15_shut⟩
  · exact ⟨rfl, m16_ok, m16_shut⟩
  · exact ⟨rfl, m17_ok, m17_shut⟩
  · exact ⟨rfl, m18_ok, m18_shut⟩
  · exact ⟨rfl, m19_ok, m19_shut⟩
  · exact ⟨rfl, m20_ok, m20_shut⟩
  · exact ⟨rfl, m21_ok, m21_shut⟩
  · exact ⟨rfl, m22_ok, m22_shut⟩
  · exact ⟨rfl, m23_ok, m23_shut⟩
  · exact ⟨rfl, m24_ok, m24_shut⟩
  · exact ⟨rfl, m25_ok, m25_shut⟩
  · exact ⟨rfl, m26_ok, m26_shut⟩
  · exact ⟨rfl, m27_ok, m27_shut⟩
  · exact ⟨rfl, m28_ok, m28_shut⟩
  · exact ⟨rfl, m29_ok, m29_shut⟩
  · exact ⟨rfl, m30_ok, m30_shut⟩
  · exact ⟨rfl, m31_ok, m31_shut⟩
  · exact ⟨rfl, m32_ok, m32_shut⟩
  · exact ⟨rfl, m33_ok, m33_shut⟩
  · exact ⟨rfl, m34_ok, m34_shut⟩
  · exact ⟨rfl, m35_ok, m35_shut⟩
  · exact ⟨rfl, m36_ok, m36_shut⟩
  · exact ⟨rfl, m37_ok, m37_shut⟩
  · exact ⟨rfl, m38_ok, m38_shut⟩
  · exact ⟨rfl, m39_ok, m39_shut⟩
  · exact ⟨rfl, m40_ok, m40_shut⟩
  · exact ⟨rfl, m41_ok, m41_shut⟩
  · exact ⟨rfl, m42_ok, m42_shut⟩
  · exact ⟨rfl, m43_ok, m43_shut⟩
  · exact ⟨rfl, m44_ok, m44_shut⟩
  · exact ⟨rfl, m45_ok, m45_shut⟩
  · exact ⟨rfl, m46_ok, m46_shut⟩
  · exact ⟨rfl, m47_ok, m47_shut⟩
theorem ms46_ok : ∀ m ∈ ms46, m.f = 46 ∧ memoOk Tryz.prog F X4 m = true ∧ memoShut m = true := by
  intro m hm
  simp only [ms46, List.mem_cons, List.not_mem_nil, or_false] at hm
  subst hm
  · exact ⟨rfl, m8_ok, m8_shut⟩
theorem ms16_ok : ∀ m ∈ ms16, m.f = 16 ∧ memoOk Tryz.prog F X5 m = true ∧ memoShut m = true := by
  intro m hm
  simp only [ms16, List.mem_cons, List.not_mem_nil, or_false] at hm
  subst hm
  · exact ⟨rfl, m3_ok, m3_shut⟩
theorem ms17_ok : ∀ m ∈ ms17, m.f = 17 ∧ memoOk Tryz.prog F X6 m = true ∧ memoShut m = true := by
  intro m hm
  simp only [ms17, List.mem_cons, List.not_mem_nil, or_false] at hm
  subst hm
  · exact ⟨rfl, m5_ok, m5_shut⟩
theorem ms18_ok : ∀ m ∈ ms18, m.f = 18 ∧ memoOk Tryz.prog F X7 m = true ∧ memoShut m = true := by
  intro m hm
  simp only [ms18, List.mem_cons, List.not_mem_nil, or_false] at hm
  subst hm
  · exact ⟨rfl, m48_ok, m48_shut⟩
end Go.Ev
namespace Go.Proofs
open Go.RowKit Go.Maps Go.Sort Go.Shelf
def Tryz.sortA_ren : Go.Shelf.Ren := ⟨fun | 6 => 442 | 8 => 371 | 9 => 547 | 19 => 459 | 20 => 460 | 21 => 618 | 22 => 619 | 23 => 620 | 24 => 621 | 25 => 622 | 26 => 623 | 27 => 624 | 28 => 625 | 29 => 626 | 36 => 681 | 31 => 558 | 32 => 559 | 37 => 682 | 38 => 683 | 39 => 684 | 41 => 710 | n => n, fun | 27 => 39 | 29 => 9 | 3 => 3 | 32 => 238 | 26 => 39 | 0 => 0 | 44 => 362 | 46 => 365 | 4 => 4 | 36 => 625 | 35 => 624 | 41 => 629 | 5 => 5 | 9 => 9 | 53 => 730 | 57 => 542 | 63 => 800 | 64 => 134 | n => n, fun | n => n⟩
theorem Tryz.sortA : Go.Proofs.SlLaysM.n6 Tryz.prog Tryz.sortA_ren := {
  mixed := by kernel_rfl,
  f6 := ⟨Tryz.f442.name, by decide, Tryz.func442.trans (congrArg some (by kernel_rfl))⟩,
  f8 := Tryz.func371.trans (congrArg some (by kernel_rfl)),
  f9 := ⟨Tryz.f547.name, by decide, Tryz.func547.trans (congrArg some (by kernel_rfl))⟩,
  f19 := Tryz.func459.trans (congrArg some (by kernel_rfl)),
  f20 := Tryz.func460.trans (congrArg some (by kernel_rfl)),
  f21 := ⟨Tryz.f618.name, by decide, Tryz.func618.trans (congrArg some (by kernel_rfl))⟩,
  f22 := ⟨Tryz.f619.name, by decide, Tryz.func619.trans (congrArg some (by kernel_rfl))⟩,
  f23 := ⟨Tryz.f620.name, by decide, Tryz.func620.trans (congrArg some (by kernel_rfl))⟩,
  f24 := ⟨Tryz.f621.name, by decide, Tryz.func621.trans (congrArg some (by kernel_rfl))⟩,
  f25 := ⟨Tryz.f622.name, by decide, Tryz.func622.trans (congrArg some (by kernel_rfl))⟩,
  f26 := ⟨Tryz.f623.name, by decide, Tryz.func623.trans (congrArg some (by kernel_rfl))⟩,
  f27 := ⟨Tryz.f624.name, by decide, Tryz.func624.trans (congrArg some (by kernel_rfl))⟩,
  f28 := ⟨Tryz.f625.name, by decide, Tryz.func625.trans (congrArg some (by kernel_rfl))⟩,
  f29 := ⟨Tryz.f626.name, by decide, Tryz.func626.trans (congrArg some (by kernel_rfl))⟩,
  f31 := Tryz.func558.trans (congrArg some (by kernel_rfl)),
  f32 := Tryz.func559.trans (congrArg some (by kernel_rfl)),
  f36 := ⟨Tryz.f681.name, by decide, Tryz.func681.trans (congrArg some (by kernel_rfl))⟩,
  f37 := ⟨Tryz.f682.name, by decide, Tryz.func682.trans (congrArg some (by kernel_rfl))⟩,
  f38 := ⟨Tryz.f683.name, by decide, Tryz.func683.trans (congrArg some (by kernel_rfl))⟩,
  f39 := ⟨Tryz.f684.name, by decide, Tryz.func684.trans (congrArg some (by kernel_rfl))⟩,
  f41 := ⟨Tryz.f710.name, by decide, Tryz.func710.trans (congrArg some (by kernel_rfl))⟩,
  t0 := Tryz.underlying0,
  a0 := Tryz.isAgg0,
  z0 := Tryz.sizeOf0,
  v0 := Tryz.zeroValue0,
  t3 := Tryz.underlying3,
  a3 := Tryz.isAgg3,
  z3 := Tryz.sizeOf3,
  v3 := Tryz.zeroValue3,
  t4 := Tryz.underlying4,
  a4 := Tryz.isAgg4,
  z4 := Tryz.sizeOf4,
  v4 := Tryz.zeroValue4,
  t5 := Tryz.underlying5,
  a5 := Tryz.isAgg5,
  z5 := Tryz.sizeOf5,
  v5 := Tryz.zeroValue5,
  t9 := Tryz.underlying9,
  a9 := Tryz.isAgg9,
  z9 := Tryz.sizeOf9,
  v9 := Tryz.zeroValue9,
  t26 := Tryz.underlying39,
  a26 := Tryz.isAgg39,
  z26 := Tryz.sizeOf39,
  v26 := Tryz.zeroValue39,
  t27 := Tryz.underlying39,
  a27 := Tryz.isAgg39,
  z27 := Tryz.sizeOf39,
  v27 := Tryz.zeroValue39,
  t29 := Tryz.underlying9,
  a29 := Tryz.isAgg9,
  z29 := Tryz.sizeOf9,
  v29 := Tryz.zeroValue9,
  t32 := Tryz.underlying238,
  a32 := Tryz.isAgg238,
  z32 := Tryz.sizeOf238,
  v32 := Tryz.zeroValue238,
  t35 := Tryz.underlying624,
  a35 := Tryz.isAgg624,
  z35 := Tryz.sizeOf624,
  v35 := Tryz.zeroValue624,
  t36 := Tryz.underlying625,
  a36 := Tryz.isAgg625,
  z36 := Tryz.sizeOf625,
  v36 := Tryz.zeroValue625,
  t41 := Tryz.underlying629,
  a41 := Tryz.isAgg629,
  z41 := Tryz.sizeOf629,
  v41 := Tryz.zeroValue629,
  t44 := Tryz.underlying362,
  a44 := Tryz.isAgg362,
  z44 := Tryz.sizeOf362,
  v44 := Tryz.zeroValue362,
  t46 := Tryz.underlying365,
  a46 := Tryz.isAgg365,
  z46 := Tryz.sizeOf365,
  v46 := Tryz.zeroValue365,
  t53 := Tryz.underlying730,
  a53 := Tryz.isAgg730,
  z53 := Tryz.sizeOf730,
  v53 := Tryz.zeroValue730,
  t57 := Tryz.underlying542,
  a57 := Tryz.isAgg542,
  z57 := Tryz.sizeOf542,
  v57 := Tryz.zeroValue542,
  t63 := Tryz.underlying800,
  a63 := Tryz.isAgg800,
  z63 := Tryz.sizeOf800,
  v63 := Tryz.zeroValue800,
  t64 := Tryz.underlying134,
  a64 := Tryz.isAgg134,
  z64 := Tryz.sizeOf134,
  v64 := Tryz.zeroValue134 }
/-- slices.Sort's two contracts. -/
theorem Tryz.sorts (m : Nat) : AnyZ.SortsIn Tryz.prog Tryz.sortedA_ren Fence.wide m :=
  ⟨fun blk off cap ss W hH hblk hsz => callsIn_wide.2 (AnyM.slices_Sort_string Tryz.sortA blk off cap ss W hH hblk hsz),
   fun p cap W => callsIn_wide.2 (AnyM.slices_Sort_string_none Tryz.sortA p cap W)⟩
end Go.Proofs
namespace Go.Ev
open Go.Proofs Go.RowKit
theorem X0_all (h0 : AHeap) (w0 : World) (hT : TabW w0) : XAll Tryz.prog X0 h0 w0 :=
  ((XAll.none.with ⟨_, Tryz.func250, by kernel_rfl, name_ne (by kernel_rfl)⟩ (contract_std (Tryz.sorts 4) h0 w0)).with ⟨_, Tryz.func534, by kernel_rfl, name_ne (by kernel_rfl)⟩ (contract_fields h0 w0 hT)).with ⟨_, Tryz.func156, by kernel_rfl, name_ne (by kernel_rfl)⟩ (contract_cc h0 w0)
theorem F_some {f : FuncId} (h : (F f).isSome = true) : ∃ af, F f = some af := Option.isSome_iff_exists.mp h
theorem X8_all (h0 : AHeap) (w0 : World) (hT : TabW w0) (hh0 : h0.next = .H) : XAll Tryz.prog X8 h0 w0 := by
  have h1 := (X0_all h0 w0 hT).memos mixed F_ok hh0 (F_some (f := 112) (by kernel_rfl)) ms112_ok
  have h2 := XAll.memos (X := X1) mixed F_ok h1 hh0 (F_some (f := 41) (by kernel_rfl)) ms41_ok
  have h3 := XAll.with (X := X2) h2 ⟨_, Tryz.func48, by kernel_rfl, name_ne (by kernel_rfl)⟩ (contract_marks (X := X2) h2 hh0 m11_ok)
  have h4 := XAll.memos (X := X3) mixed F_ok h3 hh0 (F_some (f := 51) (by kernel_rfl)) ms51_ok
  have h5 := XAll.memos (X := X4) mixed F_ok h4 hh0 (F_some (f := 46) (by kernel_rfl)) ms46_ok
  have h6 := XAll.memos (X := X5) mixed F_ok h5 hh0 (F_some (f := 16) (by kernel_rfl)) ms16_ok
  have h7 := XAll.memos (X := X6) mixed F_ok h6 hh0 (F_some (f := 17) (by kernel_rfl)) ms17_ok
  exact XAll.memos (X := X7) mixed F_ok h7 hh0 (F_some (f := 18) (by kernel_rfl)) ms18_ok
noncomputable def mSan : Memo := ⟨6, [], Q 1, [], 22741, .bool true, Q 1100, [], []⟩
theorem mSan_ok : memoOk Tryz.prog F X8 mSan = true := by kernel_rfl
theorem mSan_shut : memoShut mSan = true := by kernel_rfl
/-- the law's check of itself -/
theorem sanity (w : World) (hT : TabW w) : Calls Tryz.prog 6 #[] w fun r w' => r = .returned (.bool true) ∧ Below w.heap.size w w' := by
  have h := memo_rel (D := fun _ => False) (φ := fun _ => none) (h0 := ⟨.leaf, .H⟩) (h := ⟨.leaf, .H⟩) (w := w) (w0 := w) mixed F_ok (X8_all _ _ hT rfl) rfl mSan_ok mSan_shut (xs := []) (ys := #[]) (by kernel_rfl) .nil (rep_none w) (Grows.refl _ _ _ _) (fun _ h => h.elim)
  refine h.mono ?_
  rintro e w' ⟨u, φ', rfl, h1, R, G⟩
  have h1 : VR φ' (.bool true) u := h1
  cases h1
  exact ⟨rfl, G.os, G.tape, G.output, G.size, fun k hk => G.keep k hk fun b L h => by cases h⟩
#print axioms sanity
end Go.Ev
