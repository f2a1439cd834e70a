import Derived.Test.YtcgjkfpkbhhkfaaGreatDoorStd0
import Derived.Ground.GgzProg
set_option linter.unusedVariables false
set_option linter.unusedSimpArgs false
set_option linter.unusedSectionVars false
namespace Go.Proofs
open Go.RowKit Go.Maps Go.Sort Go.Shelf
def Tryz.keysA_ren : Go.Shelf.Ren := ⟨fun | 7 => 136 | 10 => 202 | n => n, fun | 23 => 197 | 26 => 9 | 3 => 200 | 28 => 195 | 0 => 0 | 27 => 194 | 33 => 264 | 4 => 4 | n => n, fun | n => n⟩
theorem Tryz.keysA : Go.Proofs.SlLaysZ.n7 Tryz.prog Tryz.keysA_ren := {
  mixed := by kernel_rfl,
  f7 := ⟨Tryz.f136.name, by decide, Tryz.func136.trans (congrArg some (by kernel_rfl))⟩,
  f10 := ⟨Tryz.f202.name, by decide, Tryz.func202.trans (congrArg some (by kernel_rfl))⟩,
  t0 := Tryz.underlying0,
  a0 := Tryz.isAgg0,
  z0 := Tryz.sizeOf0,
  v0 := Tryz.zeroValue0,
  t4 := Tryz.underlying4,
  a4 := Tryz.isAgg4,
  z4 := Tryz.sizeOf4,
  v4 := Tryz.zeroValue4,
  t23 := Tryz.underlying197,
  a23 := Tryz.isAgg197,
  z23 := Tryz.sizeOf197,
  v23 := Tryz.zeroValue197,
  t26 := Tryz.underlying9,
  a26 := Tryz.isAgg9,
  z26 := Tryz.sizeOf9,
  v26 := Tryz.zeroValue9,
  t27 := Tryz.underlying194,
  a27 := Tryz.isAgg194,
  z27 := Tryz.sizeOf194,
  v27 := Tryz.zeroValue194,
  t28 := Tryz.underlying195,
  a28 := Tryz.isAgg195,
  z28 := Tryz.sizeOf195,
  v28 := Tryz.zeroValue195,
  t33 := Tryz.underlying264,
  a33 := Tryz.isAgg264,
  z33 := Tryz.sizeOf264,
  v33 := Tryz.zeroValue264 }
def Tryz.sortedA_ren : Go.Shelf.Ren := ⟨fun | 6 => 135 | 8 => 200 | 9 => 201 | 11 => 258 | 13 => 260 | 12 => 259 | 23 => 336 | 24 => 337 | 14 => 327 | 15 => 328 | 16 => 329 | 17 => 330 | 18 => 331 | 19 => 332 | 20 => 333 | 21 => 334 | 22 => 335 | 25 => 408 | 26 => 409 | 27 => 410 | 28 => 411 | 29 => 412 | 30 => 413 | 31 => 483 | n => n, fun | 26 => 9 | 28 => 195 | 24 => 22 | 0 => 0 | 3 => 3 | 37 => 281 | 48 => 357 | 50 => 360 | 4 => 4 | 40 => 394 | 39 => 393 | 45 => 381 | 5 => 5 | 9 => 9 | 51 => 461 | 55 => 294 | 57 => 551 | 58 => 146 | 33 => 264 | n => n, fun | n => n⟩
theorem Tryz.sortedA : Go.Proofs.SlLaysZ.n6 Tryz.prog Tryz.sortedA_ren := {
  mixed := by kernel_rfl,
  f6 := ⟨Tryz.f135.name, by decide, Tryz.func135.trans (congrArg some (by kernel_rfl))⟩,
  f8 := ⟨Tryz.f200.name, by decide, Tryz.func200.trans (congrArg some (by kernel_rfl))⟩,
  f11 := ⟨Tryz.f258.name, by decide, Tryz.func258.trans (congrArg some (by kernel_rfl))⟩,
  t0 := Tryz.underlying0,
  a0 := Tryz.isAgg0,
  z0 := Tryz.sizeOf0,
  v0 := Tryz.zeroValue0,
  t24 := Tryz.underlying22,
  a24 := Tryz.isAgg22,
  z24 := Tryz.sizeOf22,
  v24 := Tryz.zeroValue22,
  t26 := Tryz.underlying9,
  a26 := Tryz.isAgg9,
  z26 := Tryz.sizeOf9,
  v26 := Tryz.zeroValue9,
  t28 := Tryz.underlying195,
  a28 := Tryz.isAgg195,
  z28 := Tryz.sizeOf195,
  v28 := Tryz.zeroValue195,
  i26 := by kernel_rfl }

def stdS : List (List UInt8) := [[97, 98, 115], [101, 110, 116, 105, 101, 114], [105, 110, 105, 110, 116], [111, 117, 116, 98, 111, 111, 108, 101, 97, 110], [111, 117, 116, 105, 110, 116, 101, 103, 101, 114], [111, 117, 116, 114, 101, 97, 108], [111, 117, 116, 115, 116, 114, 105, 110, 103], [115, 105, 103, 110]]
theorem stdS_sorted {ss : List (List UInt8)} (h : ss.Perm stdS) : ss.mergeSort (fun x y => decide (x ≤ y)) = stdS := by
  have h1 : ss.mergeSort (fun x y => decide (x ≤ y)) = stdS.mergeSort (fun x y => decide (x ≤ y)) := mergeSort_of_perm h
  rw [h1]
  exact List.mergeSort_of_pairwise (by decide)

set_option maxHeartbeats 1000000 in
set_option maxRecDepth 100000 in
theorem Tryz.standard (hsort : AnyZ.SortsIn Tryz.prog Tryz.sortedA_ren Fence.wide 4) (w : World) :
    Calls Tryz.prog 61 #[] w fun e w' => ∃ v, e = .returned v ∧ w'.ownsRow w.heap.size 9 1 v 8 (stdS.map encStr) ∧ Below w.heap.size w w' := by
  refine (callsIn_wide (n := 6)).1 ?_
  have cM : CallsIn Fence.wide 5 Tryz.prog 137 #[] w fun e w' => ∃ b, e = .returned (.map (some b)) ∧ w'.ownsMap Tryz.prog 9 (Ev.R1 (H := Unit)) b 8 Ev.stdD ∧ RowKit.Below w.heap.size w w' := callsIn_wide.2 (Ev.standards_makes w)
  have cK : ∀ mb W, CallsIn Fence.wide 5 Tryz.prog 136 #[.map mb] W fun e w' => e = .returned (.func (.func 202) #[] #[.pointer (some ⟨W.heap.size, 0, none⟩)]) ∧ w' = W.alloc (.cells #[.map mb] 197) := fun mb W => AnyZ.keys_in Tryz.keysA Fence.wide 5 trivial rfl mb W
  have hseq : ∀ (b : Nat) (W : World), W.ownsMap Tryz.prog 9 (Ev.R1 (H := Unit)) b 8 Ev.stdD → SeqGives Fence.wide 2 Tryz.prog 202 #[.pointer (some ⟨W.heap.size, 0, none⟩)] encStr (fun ss => ss.Perm (strKeys Ev.stdD)) (Maps.size Ev.stdD) (W.alloc (.cells #[.map (some b)] 197)) := fun b W hown =>
    AnyZ.keys_gives (ρ := Tryz.keysA_ren) { Tryz.keysA with } Fence.wide _ trivial rfl (by omega) W.heap.size b 8 Ev.stdD _ (by simp) (by simp) (by
      have hbl := hown.lt
      obtain ⟨es, clock, hb, Ft, hs, hD⟩ := hown
      exact ⟨es, clock, (Below.heap_alloc _ _ b hbl).trans hb, Ft, hs, hD⟩)
  have cS : ∀ (b : Nat) (W : World), W.ownsMap Tryz.prog 9 (Ev.R1 (H := Unit)) b 8 Ev.stdD → CallsIn Fence.wide 5 Tryz.prog 135 #[.func (.func 202) #[] #[.pointer (some ⟨W.heap.size, 0, none⟩)]] (W.alloc (.cells #[.map (some b)] 197)) fun e w' => ∃ (v : Value) (ss : List (List UInt8)), e = .returned v ∧ ss.Perm (strKeys Ev.stdD) ∧
      w'.ownsRow (W.alloc (.cells #[.map (some b)] 197)).heap.size 9 1 v ss.length ((ss.mergeSort (fun x y => decide (x ≤ y))).map encStr) ∧ (v = .slice none 0 0 ↔ ss = []) ∧ Below (W.alloc (.cells #[.map (some b)] 197)).heap.size (W.alloc (.cells #[.map (some b)] 197)) w' := fun b W hown =>
    AnyZ.sorted_in Tryz.sortedA Fence.wide 5 trivial trivial trivial trivial rfl (by omega) hsort (enters_of Tryz.func201 (by kernel_rfl) rfl) 202 #[.pointer (some ⟨W.heap.size, 0, none⟩)] trivial (enters_of Tryz.func202 (by kernel_rfl) rfl) _ _ (by decide) (by decide) _ (hseq b W hown)
  have f1 : Fence.wide.fn 137 := trivial
  have f2 : Fence.wide.fn 136 := trivial
  have f3 : Fence.wide.fn 135 := trivial
  refine callsIn_of_wp Tryz.func61 rfl trivial ?_ rfl
  simp only [Tryz.ntmps61, List.size_toArray, List.length_cons, List.length_nil, Nat.reduceAdd, Nat.reduceSub, Array.replicate_succ, Array.replicate_zero, List.push_toArray, List.append_toArray, List.nil_append, List.cons_append]
  gi_wp2_with (first
    | (gi_at_call 137; refine cM.mono ?_; rintro e w1 ⟨b, rfl, hown, hb1⟩)
    | (gi_at_call 136; refine (cK _ _).mono ?_; rintro e w' ⟨rfl, rfl⟩)
    | (gi_at_call 135; refine (cS b w1 hown).mono ?_; rintro e w' ⟨v, ss, rfl, hS, hrow, hnil, hb⟩))
  go_ret
  rw [Ev.stdD_keys] at hS
  have hL : ss.length = 8 := hS.length_eq
  rw [stdS_sorted hS, hL] at hrow
  refine ⟨v, rfl, ownsRow_base_a hrow (by have := hb1.size; simp; omega), ?_⟩
  exact (hb1.trans ((Below.refl _ w1).alloc (by have := hb1.size; omega) _)).trans (hb.mono (by have := hb1.size; simp; omega))
end Go.Proofs
