import Derived.Test.YtcgjkfpkbhhkfaaGreatDoorGj
import Derived.Test.YtcgjkfpkbhhkfaaGreatDoorStd3
import Derived.Test.YtcgjkfpkbhhkfaaGreatDoorIt
set_option linter.unusedVariables false
set_option linter.unusedSimpArgs false
set_option linter.unusedSectionVars false
namespace Go.Ev
open Go.Proofs Go.RowKit
theorem X0_all (h0 : AHeap) (w0 : World) (hT : TabsW w0) : XAll Tryz.prog X0 h0 w0 :=
  ((XAll.none.with ⟨_, Tryz.func61, by kernel_rfl, name_ne (by kernel_rfl)⟩ (contract_std (Tryz.sorts 4) h0 w0)).with ⟨_, Tryz.func482, by kernel_rfl, name_ne (by kernel_rfl)⟩ (contract_fields h0 w0 hT.1)).with ⟨_, Tryz.func399, by kernel_rfl, name_ne (by kernel_rfl)⟩ (contract_itoa h0 w0 hT)
theorem F_some {f : FuncId} (h : (F f).isSome = true) : ∃ af, F f = some af := Option.isSome_iff_exists.mp h
theorem X6_all (h0 : AHeap) (w0 : World) (hT : TabsW w0) (hh0 : h0.next = .H) : XAll Tryz.prog X6 h0 w0 := by
  have h1 := (X0_all h0 w0 hT).memos mixed F_ok hh0 (F_some (f := 48) (by kernel_rfl)) ms48_ok
  have h2 := XAll.memos (X := X1) mixed F_ok h1 hh0 (F_some (f := 7) (by kernel_rfl)) ms7_ok
  have h3 := XAll.memos (X := X2) mixed F_ok h2 hh0 (F_some (f := 26) (by kernel_rfl)) ms26_ok
  have h4 := XAll.memos (X := X3) mixed F_ok h3 hh0 (F_some (f := 4) (by kernel_rfl)) ms4_ok
  have h5 := XAll.memos (X := X4) mixed F_ok h4 hh0 (F_some (f := 5) (by kernel_rfl)) ms5_ok
  exact XAll.memos (X := X5) mixed F_ok h5 hh0 (F_some (f := 6) (by kernel_rfl)) ms6_ok
theorem gb_at {a k : Nat} (h : ((List.range' a 64).all fun k => bi (memoOk Tryz.prog F X6 (gbM k)) (memoShut (gbM k)) false) = true) (h1 : a ≤ k) (h2 : k < a + 64) : memoOk Tryz.prog F X6 (gbM k) = true ∧ memoShut (gbM k) = true := by
  have := List.all_eq_true.1 h k (List.mem_range'_1.2 ⟨h1, h2⟩)
  exact bif_tf this
theorem gb_all {k : Nat} (hk : k < 256) : memoOk Tryz.prog F X6 (gbM k) = true ∧ memoShut (gbM k) = true := by
  by_cases h1 : k < 64
  · exact gb_at gb0_ok (by omega) (by omega)
  · by_cases h2 : k < 128
    · exact gb_at gb64_ok (by omega) (by omega)
    · by_cases h3 : k < 192
      · exact gb_at gb128_ok (by omega) (by omega)
      · exact gb_at gb192_ok (by omega) (by omega)
theorem same_self (k : Nat) : all2 (same 20) [AV.int .u8 (.ofNat k)] [AV.int .u8 (.ofNat k)] = true := by
  show bi (bi true (Nat.beq k k) false) true false = true
  rw [Nat.beq_refl]; rfl
/-- Knuth's test, for every k -/
theorem boys (k : Nat) (hk : k < 256) (w : World) (hT : TabsW w) : Calls Tryz.prog 3 #[.int .u8 (k : Int)] w fun r w' => r = .returned (.bool true) ∧ Below w.heap.size w w' := by
  obtain ⟨h1, h2⟩ := gb_all hk
  have hx : VRs (fun _ => none) [AV.int .u8 (.ofNat k)] (#[Value.int .u8 (k : Int)] : Array Value).toList := .cons _ _ _ _ (.int .u8 (Int.ofNat k)) .nil
  have hh : hit (gbM k) [AV.int .u8 (.ofNat k)] ⟨.leaf, .H⟩ = true := by
    show bi true (bi (all2 (same 20) [AV.int .u8 (.ofNat k)] [AV.int .u8 (.ofNat k)]) true false) false = true
    rw [show all2 (same 20) [AV.int .u8 (.ofNat k)] [AV.int .u8 (.ofNat k)] = true from same_self k]
    rfl
  have h := memo_rel (D := fun _ => False) (φ := fun _ => none) (h0 := ⟨.leaf, .H⟩) (h := ⟨.leaf, .H⟩) (w := w) (w0 := w) mixed F_ok (X6_all _ _ hT rfl) rfl h1 h2 hh hx (rep_none w) (Grows.refl _ _ _ _) (fun _ h => h.elim)
  refine h.mono ?_
  rintro e w' ⟨u, φ', rfl, h1, R, G⟩
  have h1 : VR φ' (.bool true) u := h1
  cases h1
  exact ⟨rfl, G.os, G.tape, G.output, G.size, fun k hk => G.keep k hk fun b L h => by cases h⟩
#print axioms boys
end Go.Ev
