import Derived.Test.YtogabhigkmggiaaGreatDoorStd0
import Derived.Ground.GgzProg
set_option linter.unusedVariables false
set_option linter.unusedSimpArgs false
set_option linter.unusedSectionVars false
namespace Go.Proofs
open Go.RowKit Go.Maps Go.Sort Go.Shelf
def Tryz.keysA_ren : Go.Shelf.Ren := ⟨fun | 7 => 360 | 10 => 443 | n => n, fun | 23 => 524 | 26 => 9 | 3 => 527 | 28 => 522 | 0 => 0 | 27 => 521 | 33 => 405 | 4 => 4 | n => n, fun | n => n⟩
theorem Tryz.keysA : Go.Proofs.SlLaysZ.n7 Tryz.prog Tryz.keysA_ren := {
  mixed := by kernel_rfl,
  f7 := ⟨Tryz.f360.name, by decide, Tryz.func360.trans (congrArg some (by kernel_rfl))⟩,
  f10 := ⟨Tryz.f443.name, by decide, Tryz.func443.trans (congrArg some (by kernel_rfl))⟩,
  t0 := Tryz.underlying0,
  a0 := Tryz.isAgg0,
  z0 := Tryz.sizeOf0,
  v0 := Tryz.zeroValue0,
  t4 := Tryz.underlying4,
  a4 := Tryz.isAgg4,
  z4 := Tryz.sizeOf4,
  v4 := Tryz.zeroValue4,
  t23 := Tryz.underlying524,
  a23 := Tryz.isAgg524,
  z23 := Tryz.sizeOf524,
  v23 := Tryz.zeroValue524,
  t26 := Tryz.underlying9,
  a26 := Tryz.isAgg9,
  z26 := Tryz.sizeOf9,
  v26 := Tryz.zeroValue9,
  t27 := Tryz.underlying521,
  a27 := Tryz.isAgg521,
  z27 := Tryz.sizeOf521,
  v27 := Tryz.zeroValue521,
  t28 := Tryz.underlying522,
  a28 := Tryz.isAgg522,
  z28 := Tryz.sizeOf522,
  v28 := Tryz.zeroValue522,
  t33 := Tryz.underlying405,
  a33 := Tryz.isAgg405,
  z33 := Tryz.sizeOf405,
  v33 := Tryz.zeroValue405 }
def Tryz.sortedA_ren : Go.Shelf.Ren := ⟨fun | 6 => 359 | 8 => 441 | 9 => 442 | 11 => 546 | 13 => 371 | 12 => 547 | 23 => 459 | 24 => 460 | 14 => 618 | 15 => 619 | 16 => 620 | 17 => 621 | 18 => 622 | 19 => 623 | 20 => 624 | 21 => 625 | 22 => 626 | 25 => 681 | 26 => 558 | 27 => 559 | 28 => 682 | 29 => 683 | 30 => 684 | 31 => 710 | n => n, fun | 26 => 9 | 28 => 522 | 24 => 39 | 0 => 0 | 3 => 3 | 37 => 238 | 48 => 362 | 50 => 365 | 4 => 4 | 40 => 625 | 39 => 624 | 45 => 629 | 5 => 5 | 9 => 9 | 51 => 730 | 55 => 542 | 57 => 800 | 58 => 134 | 33 => 405 | n => n, fun | n => n⟩
theorem Tryz.sortedA : Go.Proofs.SlLaysZ.n6 Tryz.prog Tryz.sortedA_ren := {
  mixed := by kernel_rfl,
  f6 := ⟨Tryz.f359.name, by decide, Tryz.func359.trans (congrArg some (by kernel_rfl))⟩,
  f8 := ⟨Tryz.f441.name, by decide, Tryz.func441.trans (congrArg some (by kernel_rfl))⟩,
  f11 := ⟨Tryz.f546.name, by decide, Tryz.func546.trans (congrArg some (by kernel_rfl))⟩,
  t0 := Tryz.underlying0,
  a0 := Tryz.isAgg0,
  z0 := Tryz.sizeOf0,
  v0 := Tryz.zeroValue0,
  t24 := Tryz.underlying39,
  a24 := Tryz.isAgg39,
  z24 := Tryz.sizeOf39,
  v24 := Tryz.zeroValue39,
  t26 := Tryz.underlying9,
  a26 := Tryz.isAgg9,
  z26 := Tryz.sizeOf9,
  v26 := Tryz.zeroValue9,
  t28 := Tryz.underlying522,
  a28 := Tryz.isAgg522,
  z28 := Tryz.sizeOf522,
  v28 := Tryz.zeroValue522,
  i26 := by kernel_rfl }

def stdS : List (List UInt8) := [[97, 98, 115], [101, 110, 116, 105, 101, 114], [105, 110, 105, 110, 116], [111, 117, 116, 98, 111, 111, 108, 101, 97, 110], [111, 117, 116, 105, 110, 116, 101, 103, 101, 114], [111, 117, 116, 114, 101, 97, 108], [111, 117, 116, 115, 116, 114, 105, 110, 103], [115, 105, 103, 110]]
theorem stdS_sorted {ss : List (List UInt8)} (h : ss.Perm stdS) : ss.mergeSort (fun x y => decide (x ≤ y)) = stdS := by
  have h1 : ss.mergeSort (fun x y => decide (x ≤ y)) = stdS.mergeSort (fun x y => decide (x ≤ y)) := mergeSort_of_perm h
  rw [h1]
  exact List.mergeSort_of_pairwise (by decide)

set_option maxHeartbeats 1000000 in
set_option maxRecDepth 100000 in
theorem Tryz.standard (hsort : AnyZ.SortsIn Tryz.prog Tryz.sortedA_ren Fence.wide 4) (w : World) :
    Calls Tryz.prog 250 #[] w fun e w' => ∃ v, e = .returned v ∧ w'.ownsRow w.heap.size 9 1 v 8 (stdS.map encStr) ∧ Below w.heap.size w w' := by
  refine (callsIn_wide (n := 6)).1 ?_
  have cM : CallsIn Fence.wide 5 Tryz.prog 361 #[] w fun e w' => ∃ b, e = .returned (.map (some b)) ∧ w'.ownsMap Tryz.prog 9 (Ev.R1 (H := Unit)) b 8 Ev.stdD ∧ RowKit.Below w.heap.size w w' := callsIn_wide.2 (Ev.standards_makes w)
  have cK : ∀ mb W, CallsIn Fence.wide 5 Tryz.prog 360 #[.map mb] W fun e w' => e = .returned (.func (.func 443) #[] #[.pointer (some ⟨W.heap.size, 0, none⟩)]) ∧ w' = W.alloc (.cells #[.map mb] 524) := fun mb W => AnyZ.keys_in Tryz.keysA Fence.wide 5 trivial rfl mb W
  have hseq : ∀ (b : Nat) (W : World), W.ownsMap Tryz.prog 9 (Ev.R1 (H := Unit)) b 8 Ev.stdD → SeqGives Fence.wide 2 Tryz.prog 443 #[.pointer (some ⟨W.heap.size, 0, none⟩)] encStr (fun ss => ss.Perm (strKeys Ev.stdD)) (Maps.size Ev.stdD) (W.alloc (.cells #[.map (some b)] 524)) := fun b W hown =>
    AnyZ.keys_gives (ρ := Tryz.keysA_ren) { Tryz.keysA with } Fence.wide _ trivial rfl (by omega) W.heap.size b 8 Ev.stdD _ (by simp) (by simp) (by
      have hbl := hown.lt
      obtain ⟨es, clock, hb, Ft, hs, hD⟩ := hown
      exact ⟨es, clock, (Below.heap_alloc _ _ b hbl).trans hb, Ft, hs, hD⟩)
  have cS : ∀ (b : Nat) (W : World), W.ownsMap Tryz.prog 9 (Ev.R1 (H := Unit)) b 8 Ev.stdD → CallsIn Fence.wide 5 Tryz.prog 359 #[.func (.func 443) #[] #[.pointer (some ⟨W.heap.size, 0, none⟩)]] (W.alloc (.cells #[.map (some b)] 524)) fun e w' => ∃ (v : Value) (ss : List (List UInt8)), e = .returned v ∧ ss.Perm (strKeys Ev.stdD) ∧
      w'.ownsRow (W.alloc (.cells #[.map (some b)] 524)).heap.size 9 1 v ss.length ((ss.mergeSort (fun x y => decide (x ≤ y))).map encStr) ∧ (v = .slice none 0 0 ↔ ss = []) ∧ Below (W.alloc (.cells #[.map (some b)] 524)).heap.size (W.alloc (.cells #[.map (some b)] 524)) w' := fun b W hown =>
    AnyZ.sorted_in Tryz.sortedA Fence.wide 5 trivial trivial trivial trivial rfl (by omega) hsort (enters_of Tryz.func442 (by kernel_rfl) rfl) 443 #[.pointer (some ⟨W.heap.size, 0, none⟩)] trivial (enters_of Tryz.func443 (by kernel_rfl) rfl) _ _ (by decide) (by decide) _ (hseq b W hown)
  have f1 : Fence.wide.fn 361 := trivial
  have f2 : Fence.wide.fn 360 := trivial
  have f3 : Fence.wide.fn 359 := trivial
  refine callsIn_of_wp Tryz.func250 rfl trivial ?_ rfl
  simp only [Tryz.ntmps250, List.size_toArray, List.length_cons, List.length_nil, Nat.reduceAdd, Nat.reduceSub, Array.replicate_succ, Array.replicate_zero, List.push_toArray, List.append_toArray, List.nil_append, List.cons_append]
  gi_wp2_with (first
    | (gi_at_call 361; refine cM.mono ?_; rintro e w1 ⟨b, rfl, hown, hb1⟩)
    | (gi_at_call 360; refine (cK _ _).mono ?_; rintro e w' ⟨rfl, rfl⟩)
    | (gi_at_call 359; refine (cS b w1 hown).mono ?_; rintro e w' ⟨v, ss, rfl, hS, hrow, hnil, hb⟩))
  go_ret
  rw [Ev.stdD_keys] at hS
  have hL : ss.length = 8 := hS.length_eq
  rw [stdS_sorted hS, hL] at hrow
  refine ⟨v, rfl, ownsRow_base_a hrow (by have := hb1.size; simp; omega), ?_⟩
  exact (hb1.trans ((Below.refl _ w1).alloc (by have := hb1.size; omega) _)).trans (hb.mono (by have := hb1.size; simp; omega))
end Go.Proofs
