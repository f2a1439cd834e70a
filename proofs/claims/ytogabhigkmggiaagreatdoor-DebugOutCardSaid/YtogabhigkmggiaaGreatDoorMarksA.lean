import Derived.Test.YtogabhigkmggiaaGreatDoorMm
import Derived.WalkKit
set_option linter.unusedVariables false
set_option linter.unusedSimpArgs false
set_option linter.unusedSectionVars false
namespace Go.Ev
open Go.Proofs
noncomputable def neg1 : AV := .int .i64 (.negSucc 0)
noncomputable def oRep : AObj := .big 3 0 10 [(N 0)] (tset .leaf 0 [neg1, neg1, neg1, neg1, neg1, neg1, neg1, neg1, neg1, neg1]) none
noncomputable def mRep : Memo := ⟨74, [(.sl (Q 1) 0 1 1), (N 10)], Q 2, [(Q 1, .small 3 [neg1])], 280, (.sl (Q 2) 0 10 1), Q 3, [(Q 1, .small 3 [neg1])], [(Q 2, oRep)]⟩
theorem mRep_ok : memoOk Tryz.prog F (fun _ => none) mRep = true := by kernel_rfl
theorem mRep_shut : memoShut mRep = true := by kernel_rfl
theorem m72_shut : memoShut m72 = true := by kernel_rfl

theorem alloc_size (w : World) (o : Obj) : (w.alloc o).heap.size = w.heap.size + 1 := Array.size_push ..
theorem cellRep : ∀ i, i < 10 → cell oRep i = some neg1
  | 0, _ => by kernel_rfl
  | 1, _ => by kernel_rfl
  | 2, _ => by kernel_rfl
  | 3, _ => by kernel_rfl
  | 4, _ => by kernel_rfl
  | 5, _ => by kernel_rfl
  | 6, _ => by kernel_rfl
  | 7, _ => by kernel_rfl
  | 8, _ => by kernel_rfl
  | 9, _ => by kernel_rfl
  | n + 10, h => absurd h (by omega)
/-- ten times minus one -/
theorem repeat10 (w : World) : Calls Tryz.prog 74 #[.slice (some ⟨w.heap.size, 0, none⟩) 1 1, .int .i64 10] (w.alloc (.cells #[.int .i64 (-1)] 3)) fun r w' =>
    ∃ g off cap cur lo hi, r = .returned (.slice (some ⟨g, off, none⟩) 10 cap) ∧ w.heap.size ≤ g ∧ w'.heap[g]? = some (.cells cur 3 (lo, hi)) ∧ (lo = hi ∨ hi ≤ off) ∧ (10 ≤ cap ∧ off + cap ≤ cur.size) ∧ (∀ i < 10, cur[off + i]? = some (.int .i64 (-1))) ∧ RowKit.Below w.heap.size w w' := by
  obtain ⟨R1, G1, hM⟩ := (rep_none (P := Tryz.prog) w).make (fun _ => False) (o := .small 3 [neg1]) (x := .cells #[.int .i64 (-1)] 3 (0, 0)) (csz := 1) (w' := w.alloc (.cells #[.int .i64 (-1)] 3)) rfl rfl
    (smallR (c := #[.int .i64 (-1)]) (VRs.cons _ _ _ _ (VR.int _ _) VRs.nil)) rfl rfl rfl rfl
  have h := memo_rel (D := fun _ => False) (h0 := ⟨.leaf, .H⟩) (w0 := w) mixed F_ok XAll.none rfl mRep_ok mRep_shut (xs := [(.sl (Q 1) 0 1 1), (N 10)]) (ys := #[.slice (some ⟨w.heap.size, 0, none⟩) 1 1, .int .i64 10]) (by kernel_rfl)
    (.cons _ _ _ _ (.sl (Q 1) 0 1 1 1 ⟨w.heap.size, 0, 1⟩ hM (Nat.le_refl _) (by show 0 + 0 + 1 * 1 ≤ 1; omega)) (.cons _ _ _ _ (.int _ _) .nil)) R1 G1 (fun _ h => h.elim)
  refine h.mono ?_
  rintro e w' ⟨u, φ', rfl, h1, R, G⟩
  have h1 : VR φ' (.sl (Q 2) 0 10 1) u := h1
  cases h1 with
  | sl _ _ _ _ cap L hL hn hc =>
    obtain ⟨x, hx, hO⟩ := R.obj (Q 2) oRep L (by kernel_rfl) hL
    cases hO with
    | cells _ _ e c lo hi he C =>
      cases he
      refine ⟨L.blk, L.off, cap, c, lo, hi, rfl, ?_, hx, C.warm (Nat.zero_le _), ⟨hn, by have := C.size; omega⟩, ?_, ?_⟩
      · rcases Nat.lt_or_ge L.blk w.heap.size with h | h
        · obtain ⟨d, M, h1, h2⟩ := G.fresh (Q 2) L hL (by rw [Map.put_other _ _ (show (AHeap.mk T.leaf Pos.H).next ≠ Q 2 by intro h; cases h)]) (by show L.blk < (w.heap.push _).size; simp; omega)
          by_cases hd : (AHeap.mk T.leaf Pos.H).next = d
          · subst hd
            rw [Map.put_same] at h1; cases h1
            exact Nat.le_of_eq h2
          · rw [Map.put_other _ _ hd] at h1; cases h1
        · exact h
      · intro i hi
        obtain ⟨v, h2, h3⟩ := C.cell i neg1 (cellRep i hi)
        cases h3
        exact h2
      · refine ⟨G.os, G.tape, G.output, Nat.le_trans (by rw [alloc_size]; omega) G.size, fun k hk => ?_⟩
        rw [G.keep k (by rw [alloc_size]; omega) (fun b M h => ?_)]
        · exact getElem_push_lt _ _ _ hk
        · by_cases hd : (AHeap.mk T.leaf Pos.H).next = b
          · subst hd
            rw [Map.put_same] at h; cases h
            show w.heap.size ≠ k
            omega
          · rw [Map.put_other _ _ hd] at h; cases h
end Go.Ev
