import Derived.Test.YtogabhigkmggiaaGreatDoorW1
set_option linter.unusedVariables false
set_option linter.unusedSimpArgs false
set_option linter.unusedSectionVars false
namespace Go.Proofs.YtogabhigkmggiaaGreatDoor
open Go.RowKit

def Sane (w : World) : Prop := ∀ w', Below w.heap.size w w' → Calls Tryz.prog 6 #[] w' fun r w2 => r = .returned (.bool true) ∧ Below w'.heap.size w' w2

theorem below_set {B : Nat} {a w : World} (h : Below B a w) {q : Addr} (hq : B ≤ q.block) (v : Value) : Below B a (w.setCell q v) :=
  ⟨h.os, h.tape, h.output, by simpa using h.size, fun k hk => by rw [heap_setCell_other _ _ _ _ (by omega)]; exact h.block k hk⟩
theorem cells_want {w : World} {x y z : Value} (m : Nat) (v : Value) {w6 : World} (hb6 : Below (((w.alloc (.cells #[x, y, z] 3)).drewN m).setCell ⟨w.heap.size, 2, none⟩ v).heap.size (((w.alloc (.cells #[x, y, z] 3)).drewN m).setCell ⟨w.heap.size, 2, none⟩ v) w6) :
    w6.cell? ⟨w.heap.size, 0, none⟩ = some x ∧ w6.cell? ⟨w.heap.size, 1, none⟩ = some y ∧ w6.cell? ⟨w.heap.size, 2, none⟩ = some v := by
  have hs : (((w.alloc (.cells #[x, y, z] 3)).drewN m).setCell ⟨w.heap.size, 2, none⟩ v).heap.size = w.heap.size + 1 := by simp [World.drewN]
  have h0 : ∀ i, ((w.alloc (.cells #[x, y, z] 3)).drewN m).cell? ⟨w.heap.size, i, none⟩ = (w.alloc (.cells #[x, y, z] 3)).cell? ⟨w.heap.size, i, none⟩ := fun _ => rfl
  have hh : (w.alloc (.cells #[x, y, z] 3)).heap[w.heap.size]? = some (.cells #[x, y, z] 3 (0, 0)) := (MapKept.heap_alloc w _).1
  have h1 : ((((w.alloc (.cells #[x, y, z] 3)).drewN m).setCell ⟨w.heap.size, 2, none⟩ v).heap[w.heap.size]?) = some (.cells #[x, y, v] 3 (0, 0)) := by
    have hh : ((w.alloc (.cells #[x, y, z] 3)).drewN m).heap[w.heap.size]? = some (.cells #[x, y, z] 3 (0, 0)) := hh
    simp only [World.setCell, Array.getElem?_modify, hh]
    rfl
  have h2 : w6.heap[w.heap.size]? = some (.cells #[x, y, v] 3 (0, 0)) := (hb6.block _ (by rw [hs]; omega)).trans h1
  simp only [World.cell?, h2]
  exact ⟨rfl, rfl, rfl⟩
set_option maxHeartbeats 2000000 in
theorem moves_many (p : Option Addr) (n cap : Nat) (f s : Int) (w : World) (hn : 300 < n) (hS : Sane w) :
    Calls Tryz.prog 3 #[.slice p n cap, .int .i64 f, .int .i64 s] w fun e w' => e = .returned (.bool true) ∧ Below w.heap.size w w' := by
  go_enter Tryz.func3, Tryz.ntmps3
  go_wp2_with (first
    | (go_at_call 6; refine (hS w (Below.refl _ w)).mono ?_; rintro e w1 ⟨rfl, hb1⟩)
    | go_in)
  go_ret
  exact ⟨rfl, hb1⟩

set_option maxHeartbeats 4000000 in
set_option maxRecDepth 100000 in
theorem moves_in (p : Option Addr) (b off n cap : Nat) (hp : 0 < n → p = some ⟨b, off, none⟩) (st : Nat → Int) (ln : Nat → Nat) (f : Nat) (s : Int) (w : World) (hM : Moms w b off n st ln) (hbig : n ≤ maxLen) (hn : n ≤ 300) (hf : f < n) (hS : Sane w) :
    Calls Tryz.prog 3 #[.slice p n cap, .int .i64 f, .int .i64 s] w fun e w' => e = .returned (.bool true) ∧ Below w.heap.size w w' := by
  have c7 : ∀ w', Below w.heap.size w w' → _ := fun w' h => forward_in p b off n cap hp st ln f s w' (hM.below h) hbig (Nat.le_of_lt hf)
  have c8 : ∀ w', Below w.heap.size w w' → _ := fun w' h => backward_in p b off n cap hp st ln f s w' (hM.below h) hbig (Nat.le_of_lt hf)
  have c9 : ∀ w', Below w.heap.size w w' → _ := fun w' h => out_in p b off n cap hp st ln f w' (hM.below h) hbig hf
  have c10 : ∀ w', Below w.heap.size w w' → _ := fun w' h => ref_forward p b off n cap hp st ln f s w' (hM.below h) hbig (Nat.le_of_lt hf)
  have c11 : ∀ w', Below w.heap.size w w' → _ := fun w' h => ref_backward p b off n cap hp st ln f s w' (hM.below h) hbig (Nat.le_of_lt hf)
  have c12 : ∀ w', Below w.heap.size w w' → _ := fun w' h => ref_out p b off n cap hp st ln f w' (hM.below h) hbig hf
  generalize nextAt (fun i => st i == s) (n - f) f = A at c7 c10
  generalize prevAt (fun i => st i == s) f = B at c8 c11
  generalize nextAt (fun i => decide (ln i < ln f)) (n - (f + 1)) (f + 1) = C at c9 c12
  go_enter Tryz.func3, Tryz.ntmps3
  go_wp2_with (first
    | (go_at_call 7; refine (c7 _ (Below.refl _ w)).mono ?_; rintro e w1 ⟨rfl, hb1⟩)
    | (go_at_call 8; refine (c8 _ hb1).mono ?_; rintro e w2 ⟨rfl, hb2'⟩; have hb2 := hb1.trans (hb2'.mono hb1.size))
    | (go_at_call 9; refine (c9 _ hb2).mono ?_; rintro e w3 ⟨rfl, hb3'⟩; have hb3 := hb2.trans (hb3'.mono hb2.size))
    | (go_at_call 10; refine (c10 _ (hb3.alloc hb3.size _)).mono ?_; rintro e w4 ⟨rfl, rfl⟩)
    | (go_at_call 11; refine (c11 _ (hb3.alloc hb3.size _)).mono ?_; rintro e w4 ⟨rfl, rfl⟩)
    | (go_at_call 12; refine (c12 _ (hb3.alloc hb3.size _)).mono ?_; rintro e w5 ⟨rfl, m5, rfl⟩)
    | (go_at_call 6; refine (hS _ (below_set (below_drewN (hb3.alloc hb3.size _) _) hb3.size _)).mono ?_; rintro e w6 ⟨rfl, hb6⟩; obtain ⟨q0, q1, q2⟩ := cells_want _ _ hb6)
    | (go_at_call 13; refine (found_fine _ _).mono ?_; rintro e w7 ⟨rfl, rfl⟩)
    | go_in)
  go_ret
  exact ⟨rfl, (below_set (below_drewN (hb3.alloc hb3.size _) _) hb3.size _).trans (hb6.mono (below_set (below_drewN (hb3.alloc hb3.size _) _) hb3.size _).size)⟩

theorem cells_made {w : World} {x y z : Value} {w6 : World} (hb6 : Below (w.alloc (.cells #[x, y, z] 3)).heap.size (w.alloc (.cells #[x, y, z] 3)) w6) :
    w6.cell? ⟨w.heap.size, 0, none⟩ = some x ∧ w6.cell? ⟨w.heap.size, 1, none⟩ = some y ∧ w6.cell? ⟨w.heap.size, 2, none⟩ = some z := by
  have hh : (w.alloc (.cells #[x, y, z] 3)).heap[w.heap.size]? = some (.cells #[x, y, z] 3 (0, 0)) := (MapKept.heap_alloc w _).1
  have h2 : w6.heap[w.heap.size]? = some (.cells #[x, y, z] 3 (0, 0)) := (hb6.block _ (by simp)).trans hh
  simp only [World.cell?, h2]
  exact ⟨rfl, rfl, rfl⟩

theorem found_gen (k e want : Int) (fine : Bool) (w : World) (h : (∃ o, k = fst o ∧ e = snd o ∧ fine = true ∧ want = ix o) ∨ (k = 0 ∧ e = 1 ∧ fine = false)) :
    Calls Tryz.prog 13 #[.int .i64 k, .int .i64 e, .bool fine, .int .i64 want] w fun r w' => r = .returned (.bool true) ∧ w' = w := by
  rcases h with ⟨o, rfl, rfl, rfl, rfl⟩ | ⟨rfl, rfl, rfl⟩
  · exact found_fine o w
  · exact found_bad want w

set_option maxHeartbeats 1000000 in
set_option maxRecDepth 100000 in
theorem moves_end (p : Option Addr) (b off n cap : Nat) (hp : 0 < n → p = some ⟨b, off, none⟩) (st : Nat → Int) (ln : Nat → Nat) (f : Nat) (s : Int) (w : World) (hM : Moms w b off n st ln) (hbig : n ≤ maxLen) (hn : n ≤ 300) (hf : f ≤ n) (hge : n ≤ f) (hS : Sane w) :
    Calls Tryz.prog 3 #[.slice p n cap, .int .i64 f, .int .i64 s] w fun e w' => e = .returned (.bool true) ∧ Below w.heap.size w w' := by
  have c7 : ∀ w', Below w.heap.size w w' → _ := fun w' h => forward_in p b off n cap hp st ln f s w' (hM.below h) hbig hf
  have c8 : ∀ w', Below w.heap.size w w' → _ := fun w' h => backward_in p b off n cap hp st ln f s w' (hM.below h) hbig hf
  have c10 : ∀ w', Below w.heap.size w w' → _ := fun w' h => ref_forward p b off n cap hp st ln f s w' (hM.below h) hbig hf
  have c11 : ∀ w', Below w.heap.size w w' → _ := fun w' h => ref_backward p b off n cap hp st ln f s w' (hM.below h) hbig hf
  generalize nextAt (fun i => st i == s) (n - f) f = A at c7 c10
  generalize prevAt (fun i => st i == s) f = B at c8 c11
  have hlt : ¬ f < n := by omega
  go_enter Tryz.func3, Tryz.ntmps3
  go_wp2_with (first
    | (go_at_call 7; refine (c7 _ (Below.refl _ w)).mono ?_; rintro e w1 ⟨rfl, hb1⟩)
    | (go_at_call 8; refine (c8 _ hb1).mono ?_; rintro e w2 ⟨rfl, hb2'⟩; have hb2 := hb1.trans (hb2'.mono hb1.size))
    | (go_at_call 9; refine (out_out p n cap f w2 (.inr (by omega))).mono ?_; rintro e w3 ⟨rfl, hb3'⟩; have hb3 := hb2.trans (hb3'.mono hb2.size))
    | (go_at_call 10; refine (c10 _ (hb3.alloc hb3.size _)).mono ?_; rintro e w4 ⟨rfl, rfl⟩)
    | (go_at_call 11; refine (c11 _ (hb3.alloc hb3.size _)).mono ?_; rintro e w4 ⟨rfl, rfl⟩)
    | (go_at_call 6; refine (hS _ (hb3.alloc hb3.size _)).mono ?_; rintro e w6 ⟨rfl, hb6⟩; obtain ⟨q0, q1, q2⟩ := cells_made hb6)
    | (go_at_call 13; refine (found_gen _ _ _ _ _ (by first | exact .inr ⟨rfl, rfl, rfl⟩ | exact .inl ⟨A, rfl, rfl, rfl, rfl⟩ | exact .inl ⟨B, rfl, rfl, rfl, rfl⟩)).mono ?_; rintro e w7 ⟨rfl, rfl⟩)
    | go_in)
  go_ret
  exact ⟨rfl, (hb3.alloc hb3.size _).trans (hb6.mono (hb3.alloc hb3.size _).size)⟩

set_option maxHeartbeats 4000000 in
set_option maxRecDepth 100000 in
theorem moves_low (p : Option Addr) (n cap : Nat) (f s : Int) (w : World) (hn : n ≤ 300) (hf : f < 0) (hS : Sane w) :
    Calls Tryz.prog 3 #[.slice p n cap, .int .i64 f, .int .i64 s] w fun e w' => e = .returned (.bool true) ∧ Below w.heap.size w w' := by
  go_enter Tryz.func3, Tryz.ntmps3
  go_wp2_with (first
    | (go_at_call 7; refine (forward_out p n cap f s _ (.inl hf)).mono ?_; rintro e w1 ⟨rfl, rfl⟩)
    | (go_at_call 8; refine (backward_out p n cap f s _ (.inl hf)).mono ?_; rintro e w1 ⟨rfl, rfl⟩)
    | (go_at_call 9; refine (out_out p n cap f _ (.inl hf)).mono ?_; rintro e w3 ⟨rfl, hb3⟩)
    | (go_at_call 6; refine (hS _ (hb3.alloc hb3.size _)).mono ?_; rintro e w6 ⟨rfl, hb6⟩; obtain ⟨q0, q1, q2⟩ := cells_made hb6)
    | (go_at_call 13; refine (found_bad _ _).mono ?_; rintro e w7 ⟨rfl, rfl⟩)
    | go_in)
  go_ret
  exact ⟨rfl, (hb3.alloc hb3.size _).trans (hb6.mono (hb3.alloc hb3.size _).size)⟩

set_option maxHeartbeats 4000000 in
set_option maxRecDepth 100000 in
theorem moves_high (p : Option Addr) (n cap : Nat) (f s : Int) (w : World) (hn : n ≤ 300) (hf : (n : Int) < f) (hS : Sane w) :
    Calls Tryz.prog 3 #[.slice p n cap, .int .i64 f, .int .i64 s] w fun e w' => e = .returned (.bool true) ∧ Below w.heap.size w w' := by
  have h0 : ¬ f < 0 := by omega
  go_enter Tryz.func3, Tryz.ntmps3
  go_wp2_with (first
    | (go_at_call 7; refine (forward_out p n cap f s _ (.inr hf)).mono ?_; rintro e w1 ⟨rfl, rfl⟩)
    | (go_at_call 8; refine (backward_out p n cap f s _ (.inr hf)).mono ?_; rintro e w1 ⟨rfl, rfl⟩)
    | (go_at_call 9; refine (out_out p n cap f _ (.inr (by omega))).mono ?_; rintro e w3 ⟨rfl, hb3⟩)
    | (go_at_call 6; refine (hS _ (hb3.alloc hb3.size _)).mono ?_; rintro e w6 ⟨rfl, hb6⟩; obtain ⟨q0, q1, q2⟩ := cells_made hb6)
    | (go_at_call 13; refine (found_bad _ _).mono ?_; rintro e w7 ⟨rfl, rfl⟩)
    | go_in)
  go_ret
  exact ⟨rfl, (hb3.alloc hb3.size _).trans (hb6.mono (hb3.alloc hb3.size _).size)⟩

/-- 'DebugMoves' -/
theorem moves_any (p : Option Addr) (b off n cap : Nat) (hp : 0 < n → p = some ⟨b, off, none⟩) (st : Nat → Int) (ln : Nat → Nat) (f s : Int) (w : World) (hM : Moms w b off n st ln) (hbig : n ≤ maxLen) (hS : Sane w) :
    Calls Tryz.prog 3 #[.slice p n cap, .int .i64 f, .int .i64 s] w fun e w' => e = .returned (.bool true) ∧ Below w.heap.size w w' := by
  by_cases hn : 300 < n
  · exact moves_many p n cap f s w hn hS
  · by_cases h0 : f < 0
    · exact moves_low p n cap f s w (by omega) h0 hS
    · by_cases h1 : (n : Int) < f
      · exact moves_high p n cap f s w (by omega) h1 hS
      · obtain ⟨k, rfl⟩ := Int.eq_ofNat_of_zero_le (show 0 ≤ f by omega)
        by_cases h2 : k < n
        · exact moves_in p b off n cap hp st ln k s w hM hbig (by omega) h2 hS
        · have : k = n := by omega
          exact moves_end p b off n cap hp st ln k s w hM hbig (by omega) (by omega) (by omega) hS
end Go.Proofs.YtogabhigkmggiaaGreatDoor
