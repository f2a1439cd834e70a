import Derived.Test.YtogabhigkmggiaaGreatDoorW2
set_option linter.unusedVariables false
set_option linter.unusedSimpArgs false
set_option linter.unusedSectionVars false
namespace Go.Proofs.YtogabhigkmggiaaGreatDoor
open Go.RowKit

theorem nextAt_some {p : Nat → Bool} : ∀ {k i j : Nat}, nextAt p k i = some j → i ≤ j ∧ j < i + k ∧ p j = true ∧ ∀ m, i ≤ m → m < j → p m = false := by
  intro k
  induction k with
  | zero => intro i j h; cases h
  | succ k ih =>
    intro i j h
    rw [nextAt] at h
    cases hp : p i with
    | true =>
      rw [hp, if_pos rfl] at h
      cases h
      exact ⟨Nat.le_refl _, by omega, hp, fun m h1 h2 => by omega⟩
    | false =>
      rw [hp, if_neg (by simp)] at h
      obtain ⟨h1, h2, h3, h4⟩ := ih h
      refine ⟨by omega, by omega, h3, fun m h5 h6 => ?_⟩
      rcases Nat.lt_or_ge i m with h7 | h7
      · exact h4 m (by omega) h6
      · have : m = i := by omega
        rw [this]; exact hp
theorem nextAt_none {p : Nat → Bool} : ∀ {k i : Nat}, nextAt p k i = none → ∀ m, i ≤ m → m < i + k → p m = false := by
  intro k
  induction k with
  | zero => intro i _ m h1 h2; omega
  | succ k ih =>
    intro i h m h1 h2
    rw [nextAt] at h
    cases hp : p i with
    | true => rw [hp, if_pos rfl] at h; cases h
    | false =>
      rw [hp, if_neg (by simp)] at h
      rcases Nat.lt_or_ge i m with h7 | h7
      · exact ih h m (by omega) (by omega)
      · have : m = i := by omega
        rw [this]; exact hp

set_option maxHeartbeats 1000000 in
set_option maxRecDepth 100000 in
theorem outs_in (p : Option Addr) (b off n cap : Nat) (hp : 0 < n → p = some ⟨b, off, none⟩) (st : Nat → Int) (ln : Nat → Nat) (f : Nat) (w : World) (hM : Moms w b off n st ln) (hbig : n ≤ maxLen) (hn : n ≤ 300) (hf : f < n) (hS : Sane w) :
    Calls Tryz.prog 5 #[.slice p n cap, .int .i64 f] w fun e w' => e = .returned (.bool true) ∧ Below w.heap.size w w' := by
  have c9 := out_in p b off n cap hp st ln f w hM hbig hf
  have hp1 := hp (by omega)
  subst hp1
  generalize hC : nextAt (fun i => decide (ln i < ln f)) (n - (f + 1)) (f + 1) = C at c9
  cases C with
  | none =>
    have hno := nextAt_none hC
    have c9 : Calls Tryz.prog 9 #[.slice (some ⟨b, off, none⟩) n cap, .int .i64 f] w fun e w' => e = .returned (.tuple #[.int .i64 0, .int .i64 5]) ∧ Below w.heap.size w w' := c9
    go_enter Tryz.func5, Tryz.ntmps5
    go_wp2_with (first
      | (go_at_call 9; refine c9.mono ?_; rintro e w1 ⟨rfl, hb1⟩)
      | go_in)
    go_quiet (fail)
    go_wp2
    go_loopw [7] (fun i wr => ∃ k : Nat, f ≤ k ∧ k ≤ n ∧ i = .int .i64 k ∧ Below w.heap.size w wr)
      (fun i _ => n - (intOf i).toNat)
    case atStart => exact ⟨f, by omega, by omega, rfl, below_drewN hb1 _⟩
    case round =>
      obtain ⟨k, hk0, hk, rfl, hbw⟩ := hrel
      have hM2 := hM.below hbw
      by_cases hlt : k < n
      · obtain ⟨pk, qk, ck⟩ := hM2.calls k (by omega)
        obtain ⟨pg, qg, cg⟩ := hM2.calls f (by omega)
        have hkn : k < n := by omega
        have hkf : ¬ ln k < ln f := by
          rcases Nat.lt_or_ge f k with h | h
          · exact of_decide_eq_false (hno k (by omega) (by omega))
          · have : k = f := by omega
            rw [this]; omega
        go_wp2
        go_quiet (fail)
        go_wp2
        go_roundw
        case rel => exact ⟨k + 1, by omega, by omega, by go_num, below_drewN hbw _⟩
        case measure => simp [intOf]; omega
      · go_wp2_with (first
          | (go_at_call 6; refine (hS _ hbw).mono ?_; rintro e w6 ⟨rfl, hb6⟩)
          | go_in)
        go_ret
        exact ⟨rfl, hbw.trans (hb6.mono hbw.size)⟩
  | some j =>
    obtain ⟨h1, h2, h3, h4⟩ := nextAt_some hC
    have c9 : Calls Tryz.prog 9 #[.slice (some ⟨b, off, none⟩) n cap, .int .i64 f] w fun e w' => e = .returned (.tuple #[.int .i64 j, .int .i64 0]) ∧ Below w.heap.size w w' := c9
    have h3 : ln j < ln f := of_decide_eq_true h3
    have hjn : j < n := by omega
    have hjf : ¬ j ≤ f := by omega
    go_enter Tryz.func5, Tryz.ntmps5
    go_wp2_with (first
      | (go_at_call 9; refine c9.mono ?_; rintro e w1 ⟨rfl, hb1⟩)
      | go_in)
    have hM1 := hM.below hb1
    obtain ⟨pj, qj, cj⟩ := hM1.calls j (by omega)
    obtain ⟨pf, qf, cf⟩ := hM1.calls f (by omega)
    go_quiet (fail)
    go_wp2
    go_loopw [7] (fun i wr => ∃ k : Nat, f ≤ k ∧ k ≤ j ∧ i = .int .i64 k ∧ Below w.heap.size w wr)
      (fun i _ => j - (intOf i).toNat)
    case atStart => exact ⟨f, by omega, by omega, rfl, below_drewN hb1 _⟩
    case round =>
      obtain ⟨k, hk0, hk, rfl, hbw⟩ := hrel
      have hM2 := hM.below hbw
      by_cases hlt : k < j
      · obtain ⟨pk, qk, ck⟩ := hM2.calls k (by omega)
        obtain ⟨pg, qg, cg⟩ := hM2.calls f (by omega)
        have hkn : k < n := by omega
        have hkf : ¬ ln k < ln f := by
          rcases Nat.lt_or_ge f k with h | h
          · exact of_decide_eq_false (h4 k (by omega) (by omega))
          · have : k = f := by omega
            rw [this]; omega
        go_wp2
        go_quiet (fail)
        go_wp2
        go_roundw
        case rel => exact ⟨k + 1, by omega, by omega, by go_num, below_drewN hbw _⟩
        case measure => simp [intOf]; omega
      · go_wp2_with (first
          | (go_at_call 6; refine (hS _ hbw).mono ?_; rintro e w6 ⟨rfl, hb6⟩)
          | go_in)
        go_ret
        exact ⟨rfl, hbw.trans (hb6.mono hbw.size)⟩

set_option maxHeartbeats 1000000 in
theorem outs_else (p : Option Addr) (n cap : Nat) (f : Int) (w : World) (h : 300 < n ∨ f < 0 ∨ (n : Int) ≤ f) (hS : Sane w) :
    Calls Tryz.prog 5 #[.slice p n cap, .int .i64 f] w fun e w' => e = .returned (.bool true) ∧ Below w.heap.size w w' := by
  by_cases h1 : 300 < n
  · go_enter Tryz.func5, Tryz.ntmps5
    go_wp2_with (first
      | (go_at_call 6; refine (hS w (Below.refl _ w)).mono ?_; rintro e w1 ⟨rfl, hb1⟩)
      | go_in)
    go_ret
    exact ⟨rfl, hb1⟩
  · by_cases h2 : f < 0
    · go_enter Tryz.func5, Tryz.ntmps5
      go_wp2_with (first
        | (go_at_call 6; refine (hS w (Below.refl _ w)).mono ?_; rintro e w1 ⟨rfl, hb1⟩)
        | go_in)
      go_ret
      exact ⟨rfl, hb1⟩
    · have h3 : (n : Int) ≤ f := by omega
      go_enter Tryz.func5, Tryz.ntmps5
      go_wp2_with (first
        | (go_at_call 6; refine (hS w (Below.refl _ w)).mono ?_; rintro e w1 ⟨rfl, hb1⟩)
        | go_in)
      go_ret
      exact ⟨rfl, hb1⟩

/-- 'DebugOut' -/
theorem outs_any (p : Option Addr) (b off n cap : Nat) (hp : 0 < n → p = some ⟨b, off, none⟩) (st : Nat → Int) (ln : Nat → Nat) (f : Int) (w : World) (hM : Moms w b off n st ln) (hbig : n ≤ maxLen) (hS : Sane w) :
    Calls Tryz.prog 5 #[.slice p n cap, .int .i64 f] w fun e w' => e = .returned (.bool true) ∧ Below w.heap.size w w' := by
  by_cases h : 300 < n ∨ f < 0 ∨ (n : Int) ≤ f
  · exact outs_else p n cap f w h hS
  · obtain ⟨k, rfl⟩ := Int.eq_ofNat_of_zero_le (show 0 ≤ f by omega)
    exact outs_in p b off n cap hp st ln k w hM hbig (by omega) (by omega) hS
end Go.Proofs.YtogabhigkmggiaaGreatDoor
