import Derived.Test.YtogabhigkmggiaaGreatDoorW3
set_option linter.unusedVariables false
set_option linter.unusedSimpArgs false
set_option linter.unusedSectionVars false
namespace Go.Proofs.YtogabhigkmggiaaGreatDoor
open Go.RowKit

theorem prevAt_some {p : Nat → Bool} : ∀ {i j : Nat}, prevAt p i = some j → j < i ∧ p j = true ∧ ∀ m, j < m → m < i → p m = false := by
  intro i
  induction i with
  | zero => intro j h; cases h
  | succ i ih =>
    intro j h
    rw [prevAt] at h
    cases hp : p i with
    | true =>
      rw [hp, if_pos rfl] at h
      cases h
      exact ⟨by omega, hp, fun m h1 h2 => by omega⟩
    | false =>
      rw [hp, if_neg (by simp)] at h
      obtain ⟨h1, h2, h3⟩ := ih h
      refine ⟨by omega, h2, fun m h5 h6 => ?_⟩
      rcases Nat.lt_or_ge m i with h7 | h7
      · exact h3 m h5 h7
      · have : m = i := by omega
        rw [this]; exact hp
theorem prevAt_none {p : Nat → Bool} : ∀ {i : Nat}, prevAt p i = none → ∀ m, m < i → p m = false := by
  intro i
  induction i with
  | zero => intro _ m h; omega
  | succ i ih =>
    intro h m h2
    rw [prevAt] at h
    cases hp : p i with
    | true => rw [hp, if_pos rfl] at h; cases h
    | false =>
      rw [hp, if_neg (by simp)] at h
      rcases Nat.lt_or_ge m i with h7 | h7
      · exact ih h m h7
      · have : m = i := by omega
        rw [this]; exact hp

set_option maxHeartbeats 1000000 in
theorem backs_else (p : Option Addr) (n cap : Nat) (f s : Int) (w : World) (h : 300 < n ∨ f < 0 ∨ (n : Int) < f) (hS : Sane w) :
    Calls Tryz.prog 4 #[.slice p n cap, .int .i64 f, .int .i64 s] w fun e w' => e = .returned (.bool true) ∧ Below w.heap.size w w' := by
  by_cases h1 : 300 < n
  · go_enter Tryz.func4, Tryz.ntmps4
    go_wp2_with (first
      | (go_at_call 6; refine (hS w (Below.refl _ w)).mono ?_; rintro e w1 ⟨rfl, hb1⟩)
      | go_in)
    go_ret
    exact ⟨rfl, hb1⟩
  · by_cases h2 : f < 0
    · go_enter Tryz.func4, Tryz.ntmps4
      go_wp2_with (first
        | (go_at_call 6; refine (hS w (Below.refl _ w)).mono ?_; rintro e w1 ⟨rfl, hb1⟩)
        | go_in)
      go_ret
      exact ⟨rfl, hb1⟩
    · have h3 : (n : Int) < f := by omega
      go_enter Tryz.func4, Tryz.ntmps4
      go_wp2_with (first
        | (go_at_call 6; refine (hS w (Below.refl _ w)).mono ?_; rintro e w1 ⟨rfl, hb1⟩)
        | go_in)
      go_ret
      exact ⟨rfl, hb1⟩

set_option maxHeartbeats 1000000 in
set_option maxRecDepth 100000 in
theorem backs_nn (p : Option Addr) (b off n cap : Nat) (hp : 0 < n → p = some ⟨b, off, none⟩) (st : Nat → Int) (ln : Nat → Nat) (f : Nat) (s : Int) (w : World) (hM : Moms w b off n st ln) (hbig : n ≤ maxLen) (hn : n ≤ 300) (hf : f ≤ n) (hA : nextAt (fun i => st i == s) (n - f) f = none) (hB : prevAt (fun i => st i == s) f = none) (hS : Sane w) :
    Calls Tryz.prog 4 #[.slice p n cap, .int .i64 f, .int .i64 s] w fun e w' => e = .returned (.bool true) ∧ Below w.heap.size w w' := by
  have c7 := forward_in p b off n cap hp st ln f s w hM hbig hf
  rw [hA] at c7
  have c7 : Calls Tryz.prog 7 #[.slice p n cap, .int .i64 f, .int .i64 s] w fun e w' => e = .returned (.tuple #[.int .i64 0, .int .i64 5]) ∧ Below w.heap.size w w' := c7
  have c8 : ∀ w', Below w.heap.size w w' → Calls Tryz.prog 8 #[.slice p n cap, .int .i64 f, .int .i64 s] w' fun e w2 => e = .returned (.tuple #[.int .i64 0, .int .i64 5]) ∧ Below w'.heap.size w' w2 := by
    intro w' h
    have c8 := backward_in p b off n cap hp st ln f s w' (hM.below h) hbig hf
    rw [hB] at c8
    exact c8
  have a4 := nextAt_none hA
  have b3 := prevAt_none hB
  go_enter Tryz.func4, Tryz.ntmps4
  go_wp2_with (first
    | (go_at_call 7; refine c7.mono ?_; rintro e w1 ⟨rfl, hb1⟩)
    | (go_at_call 8; refine (c8 _ hb1).mono ?_; rintro e w2 ⟨rfl, hb2'⟩; have hb2 := hb1.trans (hb2'.mono hb1.size))
    | go_in)
  go_loopw [15] (fun i wr => ∃ k : Nat, 0 ≤ k ∧ k ≤ n ∧ i = .int .i64 k ∧ Below w.heap.size w wr)
    (fun i _ => n - (intOf i).toNat)
  case atStart => exact ⟨0, by omega, by omega, by go_num, hb2⟩
  case round =>
    obtain ⟨k, hk0, hk, rfl, hbw⟩ := hrel
    have hM2 := hM.below hbw
    by_cases hlt : k < n
    · have hkn : k < n := by omega
      have hp1 := hp (by omega)
      subst hp1
      have ck := hM2.st k hkn
      have hks : (st k == s) = false := by
        rcases Nat.lt_or_ge k f with h | h
        · exact b3 k h
        · exact a4 k (by omega) (by omega)
      go_wp2
      go_roundw
      case rel => exact ⟨k + 1, by omega, by omega, by go_num, hbw⟩
      case measure => simp [intOf]; omega
    · go_wp2_with (first
        | (go_at_call 6; refine (hS _ hbw).mono ?_; rintro e w6 ⟨rfl, hb6⟩)
        | go_in)
      go_ret
      exact ⟨rfl, hbw.trans (hb6.mono hbw.size)⟩

set_option maxHeartbeats 1000000 in
set_option maxRecDepth 100000 in
theorem backs_ns (p : Option Addr) (b off n cap : Nat) (hp : 0 < n → p = some ⟨b, off, none⟩) (st : Nat → Int) (ln : Nat → Nat) (f : Nat) (s : Int) (c : Nat) (w : World) (hM : Moms w b off n st ln) (hbig : n ≤ maxLen) (hn : n ≤ 300) (hf : f ≤ n) (hA : nextAt (fun i => st i == s) (n - f) f = none) (hB : prevAt (fun i => st i == s) f = some c) (hS : Sane w) :
    Calls Tryz.prog 4 #[.slice p n cap, .int .i64 f, .int .i64 s] w fun e w' => e = .returned (.bool true) ∧ Below w.heap.size w w' := by
  have c7 := forward_in p b off n cap hp st ln f s w hM hbig hf
  rw [hA] at c7
  have c7 : Calls Tryz.prog 7 #[.slice p n cap, .int .i64 f, .int .i64 s] w fun e w' => e = .returned (.tuple #[.int .i64 0, .int .i64 5]) ∧ Below w.heap.size w w' := c7
  have c8 : ∀ w', Below w.heap.size w w' → Calls Tryz.prog 8 #[.slice p n cap, .int .i64 f, .int .i64 s] w' fun e w2 => e = .returned (.tuple #[.int .i64 c, .int .i64 0]) ∧ Below w'.heap.size w' w2 := by
    intro w' h
    have c8 := backward_in p b off n cap hp st ln f s w' (hM.below h) hbig hf
    rw [hB] at c8
    exact c8
  have a4 := nextAt_none hA
  obtain ⟨b1, b2, b3⟩ := prevAt_some hB
  have hbf : c < f := b1
  go_enter Tryz.func4, Tryz.ntmps4
  go_wp2_with (first
    | (go_at_call 7; refine c7.mono ?_; rintro e w1 ⟨rfl, hb1⟩)
    | (go_at_call 8; refine (c8 _ hb1).mono ?_; rintro e w2 ⟨rfl, hb2'⟩; have hb2 := hb1.trans (hb2'.mono hb1.size))
    | go_in)
  go_loopw [15] (fun i wr => ∃ k : Nat, c + 1 ≤ k ∧ k ≤ n ∧ i = .int .i64 k ∧ Below w.heap.size w wr)
    (fun i _ => n - (intOf i).toNat)
  case atStart => exact ⟨c + 1, by omega, by omega, by go_num, hb2⟩
  case round =>
    obtain ⟨k, hk0, hk, rfl, hbw⟩ := hrel
    have hM2 := hM.below hbw
    by_cases hlt : k < n
    · have hkn : k < n := by omega
      have hp1 := hp (by omega)
      subst hp1
      have ck := hM2.st k hkn
      have hks : (st k == s) = false := by
        rcases Nat.lt_or_ge k f with h | h
        · exact b3 k (by omega) h
        · exact a4 k (by omega) (by omega)
      go_wp2
      go_roundw
      case rel => exact ⟨k + 1, by omega, by omega, by go_num, hbw⟩
      case measure => simp [intOf]; omega
    · go_wp2_with (first
        | (go_at_call 6; refine (hS _ hbw).mono ?_; rintro e w6 ⟨rfl, hb6⟩)
        | go_in)
      go_ret
      exact ⟨rfl, hbw.trans (hb6.mono hbw.size)⟩

set_option maxHeartbeats 1000000 in
set_option maxRecDepth 100000 in
theorem backs_sn (p : Option Addr) (b off n cap : Nat) (hp : 0 < n → p = some ⟨b, off, none⟩) (st : Nat → Int) (ln : Nat → Nat) (f : Nat) (s : Int) (a : Nat) (w : World) (hM : Moms w b off n st ln) (hbig : n ≤ maxLen) (hn : n ≤ 300) (hf : f ≤ n) (hA : nextAt (fun i => st i == s) (n - f) f = some a) (hB : prevAt (fun i => st i == s) f = none) (hS : Sane w) :
    Calls Tryz.prog 4 #[.slice p n cap, .int .i64 f, .int .i64 s] w fun e w' => e = .returned (.bool true) ∧ Below w.heap.size w w' := by
  have c7 := forward_in p b off n cap hp st ln f s w hM hbig hf
  rw [hA] at c7
  have c7 : Calls Tryz.prog 7 #[.slice p n cap, .int .i64 f, .int .i64 s] w fun e w' => e = .returned (.tuple #[.int .i64 a, .int .i64 0]) ∧ Below w.heap.size w w' := c7
  have c8 : ∀ w', Below w.heap.size w w' → Calls Tryz.prog 8 #[.slice p n cap, .int .i64 f, .int .i64 s] w' fun e w2 => e = .returned (.tuple #[.int .i64 0, .int .i64 5]) ∧ Below w'.heap.size w' w2 := by
    intro w' h
    have c8 := backward_in p b off n cap hp st ln f s w' (hM.below h) hbig hf
    rw [hB] at c8
    exact c8
  obtain ⟨a1, a2, a3, a4⟩ := nextAt_some hA
  have han : a < n := by omega
  have haf : ¬ a < f := by omega
  have c8b : ∀ w', Below w.heap.size w w' → Calls Tryz.prog 8 #[.slice p n cap, .int .i64 ((a : Int) + 1), .int .i64 s] w' fun e w2 => e = .returned (.tuple #[.int .i64 a, .int .i64 0]) ∧ Below w'.heap.size w' w2 := by
    intro w' h
    have c8 := backward_in p b off n cap hp st ln (a + 1) s w' (hM.below h) hbig (by omega)
    rw [prevAt, if_pos a3] at c8
    exact c8
  have b3 := prevAt_none hB
  go_enter Tryz.func4, Tryz.ntmps4
  go_wp2_with (first
    | (go_at_call 7; refine c7.mono ?_; rintro e w1 ⟨rfl, hb1⟩)
    | (go_at_call 8; refine (c8b _ hb2).mono ?_; rintro e w3 ⟨rfl, hb3'⟩; have hb3 := hb2.trans (hb3'.mono hb2.size))
    | (go_at_call 8; refine (c8 _ hb1).mono ?_; rintro e w2 ⟨rfl, hb2'⟩; have hb2 := hb1.trans (hb2'.mono hb1.size))
    | go_in)
  go_loopw [15] (fun i wr => ∃ k : Nat, 0 ≤ k ∧ k ≤ n ∧ i = .int .i64 k ∧ Below w.heap.size w wr)
    (fun i _ => a - (intOf i).toNat)
  case atStart => exact ⟨0, by omega, by omega, by go_num, hb3⟩
  case round =>
    obtain ⟨k, hk0, hk, rfl, hbw⟩ := hrel
    have hM2 := hM.below hbw
    by_cases hlt : k < a
    · have hkn : k < n := by omega
      have hp1 := hp (by omega)
      subst hp1
      have ck := hM2.st k hkn
      have hks : (st k == s) = false := by
        rcases Nat.lt_or_ge k f with h | h
        · exact b3 k h
        · exact a4 k (by omega) (by omega)
      go_wp2
      go_roundw
      case rel => exact ⟨k + 1, by omega, by omega, by go_num, hbw⟩
      case measure => simp [intOf]; omega
    · go_wp2_with (first
        | (go_at_call 6; refine (hS _ hbw).mono ?_; rintro e w6 ⟨rfl, hb6⟩)
        | go_in)
      go_ret
      exact ⟨rfl, hbw.trans (hb6.mono hbw.size)⟩

set_option maxHeartbeats 1000000 in
set_option maxRecDepth 100000 in
theorem backs_ss (p : Option Addr) (b off n cap : Nat) (hp : 0 < n → p = some ⟨b, off, none⟩) (st : Nat → Int) (ln : Nat → Nat) (f : Nat) (s : Int) (a : Nat) (c : Nat) (w : World) (hM : Moms w b off n st ln) (hbig : n ≤ maxLen) (hn : n ≤ 300) (hf : f ≤ n) (hA : nextAt (fun i => st i == s) (n - f) f = some a) (hB : prevAt (fun i => st i == s) f = some c) (hS : Sane w) :
    Calls Tryz.prog 4 #[.slice p n cap, .int .i64 f, .int .i64 s] w fun e w' => e = .returned (.bool true) ∧ Below w.heap.size w w' := by
  have c7 := forward_in p b off n cap hp st ln f s w hM hbig hf
  rw [hA] at c7
  have c7 : Calls Tryz.prog 7 #[.slice p n cap, .int .i64 f, .int .i64 s] w fun e w' => e = .returned (.tuple #[.int .i64 a, .int .i64 0]) ∧ Below w.heap.size w w' := c7
  have c8 : ∀ w', Below w.heap.size w w' → Calls Tryz.prog 8 #[.slice p n cap, .int .i64 f, .int .i64 s] w' fun e w2 => e = .returned (.tuple #[.int .i64 c, .int .i64 0]) ∧ Below w'.heap.size w' w2 := by
    intro w' h
    have c8 := backward_in p b off n cap hp st ln f s w' (hM.below h) hbig hf
    rw [hB] at c8
    exact c8
  obtain ⟨a1, a2, a3, a4⟩ := nextAt_some hA
  have han : a < n := by omega
  have haf : ¬ a < f := by omega
  have c8b : ∀ w', Below w.heap.size w w' → Calls Tryz.prog 8 #[.slice p n cap, .int .i64 ((a : Int) + 1), .int .i64 s] w' fun e w2 => e = .returned (.tuple #[.int .i64 a, .int .i64 0]) ∧ Below w'.heap.size w' w2 := by
    intro w' h
    have c8 := backward_in p b off n cap hp st ln (a + 1) s w' (hM.below h) hbig (by omega)
    rw [prevAt, if_pos a3] at c8
    exact c8
  obtain ⟨b1, b2, b3⟩ := prevAt_some hB
  have hbf : c < f := b1
  go_enter Tryz.func4, Tryz.ntmps4
  go_wp2_with (first
    | (go_at_call 7; refine c7.mono ?_; rintro e w1 ⟨rfl, hb1⟩)
    | (go_at_call 8; refine (c8b _ hb2).mono ?_; rintro e w3 ⟨rfl, hb3'⟩; have hb3 := hb2.trans (hb3'.mono hb2.size))
    | (go_at_call 8; refine (c8 _ hb1).mono ?_; rintro e w2 ⟨rfl, hb2'⟩; have hb2 := hb1.trans (hb2'.mono hb1.size))
    | go_in)
  go_loopw [15] (fun i wr => ∃ k : Nat, c + 1 ≤ k ∧ k ≤ n ∧ i = .int .i64 k ∧ Below w.heap.size w wr)
    (fun i _ => a - (intOf i).toNat)
  case atStart => exact ⟨c + 1, by omega, by omega, by go_num, hb3⟩
  case round =>
    obtain ⟨k, hk0, hk, rfl, hbw⟩ := hrel
    have hM2 := hM.below hbw
    by_cases hlt : k < a
    · have hkn : k < n := by omega
      have hp1 := hp (by omega)
      subst hp1
      have ck := hM2.st k hkn
      have hks : (st k == s) = false := by
        rcases Nat.lt_or_ge k f with h | h
        · exact b3 k (by omega) h
        · exact a4 k (by omega) (by omega)
      go_wp2
      go_roundw
      case rel => exact ⟨k + 1, by omega, by omega, by go_num, hbw⟩
      case measure => simp [intOf]; omega
    · go_wp2_with (first
        | (go_at_call 6; refine (hS _ hbw).mono ?_; rintro e w6 ⟨rfl, hb6⟩)
        | go_in)
      go_ret
      exact ⟨rfl, hbw.trans (hb6.mono hbw.size)⟩

/-- 'DebugBack' -/
theorem backs_any (p : Option Addr) (b off n cap : Nat) (hp : 0 < n → p = some ⟨b, off, none⟩) (st : Nat → Int) (ln : Nat → Nat) (f s : Int) (w : World) (hM : Moms w b off n st ln) (hbig : n ≤ maxLen) (hS : Sane w) :
    Calls Tryz.prog 4 #[.slice p n cap, .int .i64 f, .int .i64 s] w fun e w' => e = .returned (.bool true) ∧ Below w.heap.size w w' := by
  by_cases h : 300 < n ∨ f < 0 ∨ (n : Int) < f
  · exact backs_else p n cap f s w h hS
  · obtain ⟨k, rfl⟩ := Int.eq_ofNat_of_zero_le (show 0 ≤ f by omega)
    cases hA : nextAt (fun i => st i == s) (n - k) k with
    | none =>
      cases hB : prevAt (fun i => st i == s) k with
      | none => exact backs_nn p b off n cap hp st ln k s w hM hbig (by omega) (by omega) hA hB hS
      | some c => exact backs_ns p b off n cap hp st ln k s c w hM hbig (by omega) (by omega) hA hB hS
    | some a =>
      cases hB : prevAt (fun i => st i == s) k with
      | none => exact backs_sn p b off n cap hp st ln k s a w hM hbig (by omega) (by omega) hA hB hS
      | some c => exact backs_ss p b off n cap hp st ln k s a c w hM hbig (by omega) (by omega) hA hB hS
end Go.Proofs.YtogabhigkmggiaaGreatDoor
