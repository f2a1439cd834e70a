import Derived.Test.YtogabhigkmggiaaGreatDoorProg
import Derived.WalkKit
import Derived.WalkSpells
import Derived.KernelRfl
import Derived.Deep.QuietTactic
import Derived.BigQuiet
import Derived.WalkSmall
set_option linter.unusedVariables false
set_option linter.unusedSimpArgs false
set_option linter.unusedSectionVars false
namespace Go.Proofs.YtogabhigkmggiaaGreatDoor
open Go.RowKit

/-- the first index from i on, among k, at which a test holds -/
def nextAt (p : Nat → Bool) : Nat → Nat → Option Nat
  | 0, _ => none
  | k + 1, i => if p i then some i else nextAt p k (i + 1)
/-- the last index below i at which a test holds -/
def prevAt (p : Nat → Bool) : Nat → Option Nat
  | 0 => none
  | i + 1 => if p i then some i else prevAt p i
def ix : Option Nat → Int
  | some j => j
  | none => -1
/-- moments, as far as they are read -/
structure Moms (w : World) (b off n : Nat) (st : Nat → Int) (ln : Nat → Nat) : Prop where
  st : ∀ i < n, w.cell? ⟨b, off + i * 4, none⟩ = some (.int .i64 (st i))
  steps : ∀ i < n, ∃ x, w.cell? ⟨b, off + i * 4 + 1, none⟩ = some (.int .i64 x)
  out : ∀ i < n, ∃ x, w.cell? ⟨b, off + i * 4 + 2, none⟩ = some (.string x)
  calls : ∀ i < n, ∃ p c, w.cell? ⟨b, off + i * 4 + 3, none⟩ = some (.slice p (ln i) c)

theorem nextAt_end (p : Nat → Bool) (i : Nat) : nextAt p 0 i = none := rfl
theorem nextAt_yes {p : Nat → Bool} {n i : Nat} (hi : i < n) (h : p i = true) : nextAt p (n - i) i = some i := by
  obtain ⟨k, hk⟩ : ∃ k, n - i = k + 1 := ⟨n - i - 1, by omega⟩
  rw [hk, nextAt, if_pos h]
theorem nextAt_no {p : Nat → Bool} {n i : Nat} (hi : i < n) (h : p i = false) : nextAt p (n - i) i = nextAt p (n - (i + 1)) (i + 1) := by
  obtain ⟨k, hk⟩ : ∃ k, n - i = k + 1 := ⟨n - i - 1, by omega⟩
  have hk2 : n - (i + 1) = k := by omega
  rw [hk, hk2, nextAt, if_neg (by rw [h]; simp)]

set_option maxHeartbeats 1000000 in
theorem ref_forward (p : Option Addr) (b off n cap : Nat) (hp : 0 < n → p = some ⟨b, off, none⟩) (st : Nat → Int) (ln : Nat → Nat) (f : Nat) (s : Int) (w : World) (hM : Moms w b off n st ln) (hbig : n ≤ maxLen) (hf : f ≤ n) :
    Calls Tryz.prog 10 #[.slice p n cap, .int .i64 f, .int .i64 s] w fun e w' => e = .returned (.int .i64 (ix (nextAt (fun i => st i == s) (n - f) f))) ∧ w' = w := by
  unfold maxLen at hbig
  go_enter Tryz.func10, Tryz.ntmps10
  go_wp2
  go_loop [7] (fun i => ∃ k : Nat, k ≤ n ∧ i = .int .i64 k ∧ nextAt (fun i => st i == s) (n - f) f = nextAt (fun i => st i == s) (n - k) k)
    (fun i => n - (intOf i).toNat)
  case atStart => exact ⟨f, hf, rfl, rfl⟩
  case round =>
    obtain ⟨k, hk, rfl, he⟩ := hrel
    by_cases hlt : k < n
    · have hp1 := hp (by omega)
      subst hp1
      have hcell : w.cell? ⟨b, off + k * 4, none⟩ = some (.int .i64 (st k)) := hM.st k hlt
      go_wp2
      · have h1 : (st k == s) = true := by assumption
        go_ret
        exact ⟨by rw [nextAt_yes (p := fun i => st i == s) hlt h1]; rfl, rfl⟩
      · have h1 : (st k == s) = false := by assumption
        go_round
        case rel => exact ⟨k + 1, by omega, by go_num, by rw [he, nextAt_no (p := fun i => st i == s) hlt h1]⟩
        case measure => simp [intOf]; omega
    · go_wp2
      have hkn : n - k = 0 := by omega
      go_ret
      exact ⟨by rw [hkn]; rfl, rfl⟩

set_option maxHeartbeats 1000000 in
theorem ref_backward (p : Option Addr) (b off n cap : Nat) (hp : 0 < n → p = some ⟨b, off, none⟩) (st : Nat → Int) (ln : Nat → Nat) (f : Nat) (s : Int) (w : World) (hM : Moms w b off n st ln) (hbig : n ≤ maxLen) (hf : f ≤ n) :
    Calls Tryz.prog 11 #[.slice p n cap, .int .i64 f, .int .i64 s] w fun e w' => e = .returned (.int .i64 (ix (prevAt (fun i => st i == s) f))) ∧ w' = w := by
  unfold maxLen at hbig
  go_enter Tryz.func11, Tryz.ntmps11
  go_wp2
  go_loop [7] (fun i => ∃ k : Nat, k ≤ n ∧ i = .int .i64 ((k : Int) - 1) ∧ prevAt (fun i => st i == s) f = prevAt (fun i => st i == s) k)
    (fun i => (intOf i + 1).toNat)
  case atStart => exact ⟨f, hf, rfl, rfl⟩
  case round =>
    obtain ⟨k, hk, rfl, he⟩ := hrel
    cases k with
    | zero =>
      go_wp2
      go_ret
      exact ⟨rfl, rfl⟩
    | succ k =>
      have hp1 := hp (by omega)
      subst hp1
      have hcell : w.cell? ⟨b, off + k * 4, none⟩ = some (.int .i64 (st k)) := hM.st k (by omega)
      have e1 : ((k + 1 : Nat) : Int) - 1 = k := by omega
      rw [e1] at *
      go_wp2
      · have h1 : (st k == s) = true := by assumption
        go_ret
        exact ⟨by rw [prevAt, if_pos h1]; rfl, rfl⟩
      · have h1 : (st k == s) = false := by assumption
        go_round
        case rel => exact ⟨k, by omega, rfl, by rw [he, prevAt, if_neg (by rw [h1]; simp)]⟩
        case measure => simp [intOf] <;> omega

theorem found_bad (want : Int) (w : World) : Calls Tryz.prog 13 #[.int .i64 0, .int .i64 1, .bool false, .int .i64 want] w fun r w' => r = .returned (.bool true) ∧ w' = w := by
  go_enter Tryz.func13, Tryz.ntmps13
  go_wp2
  go_ret
  exact ⟨rfl, rfl⟩
def fst : Option Nat → Int
  | some j => j
  | none => 0
def snd : Option Nat → Int
  | some _ => 0
  | none => 5
theorem found_fine (o : Option Nat) (w : World) : Calls Tryz.prog 13 #[.int .i64 (fst o), .int .i64 (snd o), .bool true, .int .i64 (ix o)] w fun r w' => r = .returned (.bool true) ∧ w' = w := by
  cases o with
  | none =>
    show Calls Tryz.prog 13 #[.int .i64 0, .int .i64 5, .bool true, .int .i64 (-1)] w _
    go_enter Tryz.func13, Tryz.ntmps13
    go_wp2
    go_ret
    exact ⟨rfl, rfl⟩
  | some j =>
    show Calls Tryz.prog 13 #[.int .i64 j, .int .i64 0, .bool true, .int .i64 j] w _
    have hj : ¬ ((j : Int) < 0) := by omega
    go_enter Tryz.func13, Tryz.ntmps13
    go_wp2
    go_ret
    exact ⟨rfl, rfl⟩

set_option maxHeartbeats 1000000 in
theorem ref_out (p : Option Addr) (b off n cap : Nat) (hp : 0 < n → p = some ⟨b, off, none⟩) (st : Nat → Int) (ln : Nat → Nat) (f : Nat) (w : World) (hM : Moms w b off n st ln) (hbig : n ≤ maxLen) (hf : f < n) :
    Calls Tryz.prog 12 #[.slice p n cap, .int .i64 f] w fun e w' => e = .returned (.int .i64 (ix (nextAt (fun i => decide (ln i < ln f)) (n - (f + 1)) (f + 1)))) ∧ ∃ m, w' = w.drewN m := by
  unfold maxLen at hbig
  obtain ⟨pf, cf, hcf⟩ := hM.calls f hf
  go_enter Tryz.func12, Tryz.ntmps12
  go_wp2
  go_loopw [5] (fun i wr => ∃ k m : Nat, k ≤ n ∧ i = .int .i64 k ∧ wr = w.drewN m ∧ nextAt (fun i => decide (ln i < ln f)) (n - (f + 1)) (f + 1) = nextAt (fun i => decide (ln i < ln f)) (n - k) k)
    (fun i _ => n - (intOf i).toNat)
  case atStart => exact ⟨f + 1, 0, by omega, rfl, rfl, rfl⟩
  case round =>
    obtain ⟨k, m, hk, rfl, rfl, he⟩ := hrel
    by_cases hlt : k < n
    · have hp1 := hp (by omega)
      subst hp1
      obtain ⟨pk, ck, hck⟩ := hM.calls k hlt
      go_wp2
      go_quiet (fail)
      go_wp2
      · have h1 : decide (ln k < ln f) = true := decide_eq_true (by assumption)
        go_ret
        exact ⟨by rw [he, nextAt_yes (p := fun i => decide (ln i < ln f)) hlt h1]; rfl, m + nq, by simp [World.drewN, Nat.add_assoc]⟩
      · have h1 : decide (ln k < ln f) = false := decide_eq_false (by assumption)
        go_roundw
        case rel => exact ⟨k + 1, m + nq, by omega, by go_num, rfl, by rw [he, nextAt_no (p := fun i => decide (ln i < ln f)) hlt h1]⟩
        case measure => simp [intOf]; omega
    · go_wp2
      have hkn : n - k = 0 := by omega
      go_ret
      exact ⟨by rw [he, hkn]; rfl, _, rfl⟩

theorem cell_there {w w' : World} (hb : Below w.heap.size w w') {a : Addr} {v : Value} (h : w.cell? a = some v) : w'.cell? a = some v := by
  rcases Nat.lt_or_ge a.block w.heap.size with hl | hl
  · rw [hb.cell hl]; exact h
  · have : w.heap[a.block]? = none := Array.getElem?_eq_none hl
    simp [World.cell?, this] at h
theorem cell_lt {w : World} {a : Addr} {v : Value} (h : w.cell? a = some v) : a.block < w.heap.size := by
  rcases Nat.lt_or_ge a.block w.heap.size with hl | hl
  · exact hl
  · have : w.heap[a.block]? = none := Array.getElem?_eq_none hl
    simp [World.cell?, this] at h
theorem Moms.below {w w' : World} {b off n : Nat} {st : Nat → Int} {ln : Nat → Nat} (hM : Moms w b off n st ln) (h : Below w.heap.size w w') : Moms w' b off n st ln :=
  ⟨fun i hi => cell_there h (hM.st i hi), fun i hi => by obtain ⟨x, hx⟩ := hM.steps i hi; exact ⟨x, cell_there h hx⟩,
    fun i hi => by obtain ⟨x, hx⟩ := hM.out i hi; exact ⟨x, cell_there h hx⟩, fun i hi => by obtain ⟨p, c, hx⟩ := hM.calls i hi; exact ⟨p, c, cell_there h hx⟩⟩

set_option maxHeartbeats 1000000 in
theorem begins1 (x y s : Int) (t : ByteArray) (p : Option Addr) (l c a : Nat) (w : World) (h : w.cell? ⟨a, 0, none⟩ = some (.int .i64 s)) (ha : a < w.heap.size) :
    Calls Tryz.prog 35 #[.agg #[.int .i64 x, .int .i64 y, .string t, .slice p l c], .pointer (some ⟨a, 0, none⟩)] w fun e w' => e = .returned (.bool (x == s)) ∧ Below w.heap.size w w' := by
  go_enter Tryz.func35, Tryz.ntmps35
  go_wp2
  go_ret
  exact ⟨rfl, (Below.refl _ w).alloc (Nat.le_refl _) _⟩

set_option maxHeartbeats 1000000 in
theorem begins_any (s : Int) (w : World) :
    Calls Tryz.prog 20 #[.int .i64 s] w fun e w' => e = .returned (.func (.func 35) #[] #[.pointer (some ⟨w.heap.size, 0, none⟩)]) ∧ w' = w.alloc (.cells #[.int .i64 s] 3) := by
  go_enter Tryz.func20, Tryz.ntmps20
  go_wp2
  go_ret
  exact ⟨rfl, rfl⟩

set_option maxHeartbeats 1000000 in
theorem first_next (p : Option Addr) (b off n cap : Nat) (hp : 0 < n → p = some ⟨b, off, none⟩) (st : Nat → Int) (ln : Nat → Nat) (f a : Nat) (s : Int) (w : World) (hM : Moms w b off n st ln) (hbig : n ≤ maxLen) (hf : f ≤ n) (h : w.cell? ⟨a, 0, none⟩ = some (.int .i64 s)) (ha : a < w.heap.size) :
    Calls Tryz.prog 19 #[.slice p n cap, .int .i64 f, .int .i64 1, .func (.func 35) #[] #[.pointer (some ⟨a, 0, none⟩)]] w fun e w' =>
      e = .returned (.tuple #[.int .i64 (fst (nextAt (fun i => st i == s) (n - f) f)), .int .i64 (snd (nextAt (fun i => st i == s) (n - f) f))]) ∧ Below w.heap.size w w' := by
  unfold maxLen at hbig
  go_enter Tryz.func19, Tryz.ntmps19
  go_wp2
  go_loopw [10] (fun i wr => ∃ k : Nat, k ≤ n ∧ i = .int .i64 k ∧ Below w.heap.size w wr ∧ nextAt (fun i => st i == s) (n - f) f = nextAt (fun i => st i == s) (n - k) k)
    (fun i _ => n - (intOf i).toNat)
  case atStart => exact ⟨f, hf, rfl, Below.refl _ w, rfl⟩
  case round =>
    obtain ⟨k, hk, rfl, hbw, he⟩ := hrel
    have hM2 := hM.below hbw
    have ca : wr.cell? ⟨a, 0, none⟩ = some (.int .i64 s) := by rw [hbw.cell ha]; exact h
    have ha2 : a < wr.heap.size := by have := hbw.size; omega
    by_cases hlt : k < n
    · have hp1 := hp (by omega)
      subst hp1
      have c0 := hM2.st k hlt
      obtain ⟨x1, c1⟩ := hM2.steps k hlt
      obtain ⟨x2, c2⟩ := hM2.out k hlt
      obtain ⟨p3, q3, c3⟩ := hM2.calls k hlt
      go_wp2
      · have h1 : (st k == s) = true := by assumption
        go_ret2
        exact ⟨by first | (rw [he, nextAt_yes (p := fun i => st i == s) hlt h1]; rfl) | (rw [nextAt_yes (p := fun i => st i == s) hlt h1]; rfl), hbw.alloc hbw.size _⟩
      · have h1 : (st k == s) = false := by assumption
        go_roundw
        case rel => exact ⟨k + 1, by omega, by go_num, hbw.alloc hbw.size _, by rw [he, nextAt_no (p := fun i => st i == s) hlt h1]⟩
        case measure => simp [intOf]; omega
    · go_wp2
      have hkn : n - k = 0 := by omega
      go_ret2
      exact ⟨by rw [he, hkn]; rfl, hbw⟩

set_option maxHeartbeats 1000000 in
theorem first_prev (p : Option Addr) (b off n cap : Nat) (hp : 0 < n → p = some ⟨b, off, none⟩) (st : Nat → Int) (ln : Nat → Nat) (f a : Nat) (s : Int) (w : World) (hM : Moms w b off n st ln) (hbig : n ≤ maxLen) (hf : f ≤ n) (h : w.cell? ⟨a, 0, none⟩ = some (.int .i64 s)) (ha : a < w.heap.size) :
    Calls Tryz.prog 19 #[.slice p n cap, .int .i64 ((f : Int) - 1), .int .i64 (-1), .func (.func 35) #[] #[.pointer (some ⟨a, 0, none⟩)]] w fun e w' =>
      e = .returned (.tuple #[.int .i64 (fst (prevAt (fun i => st i == s) f)), .int .i64 (snd (prevAt (fun i => st i == s) f))]) ∧ Below w.heap.size w w' := by
  unfold maxLen at hbig
  go_enter Tryz.func19, Tryz.ntmps19
  go_wp2
  go_loopw [10] (fun i wr => ∃ k : Nat, k ≤ n ∧ i = .int .i64 ((k : Int) - 1) ∧ Below w.heap.size w wr ∧ prevAt (fun i => st i == s) f = prevAt (fun i => st i == s) k)
    (fun i _ => (intOf i + 1).toNat)
  case atStart => exact ⟨f, hf, rfl, Below.refl _ w, rfl⟩
  case round =>
    obtain ⟨k, hk, rfl, hbw, he⟩ := hrel
    have hM2 := hM.below hbw
    have ca : wr.cell? ⟨a, 0, none⟩ = some (.int .i64 s) := by rw [hbw.cell ha]; exact h
    have ha2 : a < wr.heap.size := by have := hbw.size; omega
    cases k with
    | zero =>
      go_wp2
      go_ret2
      exact ⟨by rw [he]; rfl, hbw⟩
    | succ k =>
      have hlt : k < n := by omega
      have hp1 := hp (by omega)
      subst hp1
      have e1 : ((k + 1 : Nat) : Int) - 1 = k := by omega
      rw [e1] at *
      have c0 := hM2.st k hlt
      obtain ⟨x1, c1⟩ := hM2.steps k hlt
      obtain ⟨x2, c2⟩ := hM2.out k hlt
      obtain ⟨p3, q3, c3⟩ := hM2.calls k hlt
      go_wp2
      · have h1 : (st k == s) = true := by assumption
        go_ret2
        exact ⟨by rw [prevAt, if_pos h1]; rfl, hbw.alloc hbw.size _⟩
      · have h1 : (st k == s) = false := by assumption
        go_roundw
        case rel => exact ⟨k, by omega, by go_num, hbw.alloc hbw.size _, by rw [he, prevAt, if_neg (by rw [h1]; simp)]⟩
        case measure => simp [intOf] <;> omega

set_option maxHeartbeats 1000000 in
theorem first_out (p : Option Addr) (b off n cap : Nat) (hp : 0 < n → p = some ⟨b, off, none⟩) (st : Nat → Int) (ln : Nat → Nat) (f a d : Nat) (w : World) (hM : Moms w b off n st ln) (hbig : n ≤ maxLen) (hf : f < n) (h : w.cell? ⟨a, 0, none⟩ = some (.slice p n cap)) (ha : a < w.heap.size) (h2 : w.cell? ⟨d, 0, none⟩ = some (.int .i64 f)) (hd : d < w.heap.size) :
    Calls Tryz.prog 19 #[.slice p n cap, .int .i64 ((f : Int) + 1), .int .i64 1, .func (.func 21) #[] #[.pointer (some ⟨a, 0, none⟩), .pointer (some ⟨d, 0, none⟩)]] w fun e w' =>
      e = .returned (.tuple #[.int .i64 (fst (nextAt (fun i => decide (ln i < ln f)) (n - (f + 1)) (f + 1))), .int .i64 (snd (nextAt (fun i => decide (ln i < ln f)) (n - (f + 1)) (f + 1)))]) ∧ Below w.heap.size w w' := by
  unfold maxLen at hbig
  go_enter Tryz.func19, Tryz.ntmps19
  go_wp2
  go_loopw [10] (fun i wr => ∃ k : Nat, k ≤ n ∧ i = .int .i64 k ∧ Below w.heap.size w wr ∧ nextAt (fun i => decide (ln i < ln f)) (n - (f + 1)) (f + 1) = nextAt (fun i => decide (ln i < ln f)) (n - k) k)
    (fun i _ => n - (intOf i).toNat)
  case atStart => exact ⟨f + 1, by omega, rfl, Below.refl _ w, rfl⟩
  case round =>
    obtain ⟨k, hk, rfl, hbw, he⟩ := hrel
    have hM2 := hM.below hbw
    have ca : wr.cell? ⟨a, 0, none⟩ = some (.slice p n cap) := by rw [hbw.cell ha]; exact h
    have ha2 : a < wr.heap.size := by have := hbw.size; omega
    have cd : wr.cell? ⟨d, 0, none⟩ = some (.int .i64 f) := by rw [hbw.cell hd]; exact h2
    have hd2 : d < wr.heap.size := by have := hbw.size; omega
    by_cases hlt : k < n
    · have hp1 := hp (by omega)
      subst hp1
      have c0 := hM2.st k hlt
      obtain ⟨x1, c1⟩ := hM2.steps k hlt
      obtain ⟨x2, c2⟩ := hM2.out k hlt
      obtain ⟨p3, q3, c3⟩ := hM2.calls k hlt
      obtain ⟨pf, qf, cf⟩ := hM2.calls f hf
      have hb2 : b < wr.heap.size := cell_lt c0
      go_wp2
      go_quiet (fail)
      go_wp2
      · have h1 : decide (ln k < ln f) = true := decide_eq_true (by assumption)
        go_ret2
        exact ⟨by rw [he, nextAt_yes (p := fun i => decide (ln i < ln f)) hlt h1]; rfl, below_drewN (hbw.alloc hbw.size _) _⟩
      · have h1 : decide (ln k < ln f) = false := decide_eq_false (by assumption)
        go_roundw
        case rel => exact ⟨k + 1, by omega, by go_num, below_drewN (hbw.alloc hbw.size _) _, by rw [he, nextAt_no (p := fun i => decide (ln i < ln f)) hlt h1]⟩
        case measure => simp [intOf]; omega
    · go_wp2
      have hkn : n - k = 0 := by omega
      go_ret2
      exact ⟨by rw [he, hkn]; rfl, hbw⟩

set_option maxHeartbeats 1000000 in
theorem forward_in (p : Option Addr) (b off n cap : Nat) (hp : 0 < n → p = some ⟨b, off, none⟩) (st : Nat → Int) (ln : Nat → Nat) (f : Nat) (s : Int) (w : World) (hM : Moms w b off n st ln) (hbig : n ≤ maxLen) (hf : f ≤ n) :
    Calls Tryz.prog 7 #[.slice p n cap, .int .i64 f, .int .i64 s] w fun e w' =>
      e = .returned (.tuple #[.int .i64 (fst (nextAt (fun i => st i == s) (n - f) f)), .int .i64 (snd (nextAt (fun i => st i == s) (n - f) f))]) ∧ Below w.heap.size w w' := by
  have hA : Below w.heap.size w (w.alloc (.cells #[.int .i64 s] 3)) := (Below.refl _ w).alloc (Nat.le_refl _) _
  have h1 := first_next p b off n cap hp st ln f w.heap.size s (w.alloc (.cells #[.int .i64 s] 3)) (hM.below hA) hbig hf (by simp) (by simp)
  unfold maxLen at hbig
  go_enter Tryz.func7, Tryz.ntmps7
  go_wp2_with (first
    | (go_at_call 20; refine (begins_any s w).mono ?_; rintro e w1 ⟨rfl, rfl⟩)
    | (go_at_call 19; refine h1.mono ?_; rintro e w2 ⟨rfl, hb2⟩)
    | go_in)
  go_ret2
  exact ⟨rfl, hA.trans (hb2.mono hA.size)⟩

set_option maxHeartbeats 1000000 in
theorem forward_out (p : Option Addr) (n cap : Nat) (f : Int) (s : Int) (w : World) (hf : f < 0 ∨ n < f) :
    Calls Tryz.prog 7 #[.slice p n cap, .int .i64 f, .int .i64 s] w fun e w' => e = .returned (.tuple #[.int .i64 0, .int .i64 1]) ∧ w' = w := by
  by_cases h : f < 0
  · go_enter Tryz.func7, Tryz.ntmps7
    go_wp2
    go_ret2
    exact ⟨rfl, rfl⟩
  · have h2 : (n : Int) < f := by omega
    go_enter Tryz.func7, Tryz.ntmps7
    go_wp2
    go_ret2
    exact ⟨rfl, rfl⟩

set_option maxHeartbeats 1000000 in
theorem backward_in (p : Option Addr) (b off n cap : Nat) (hp : 0 < n → p = some ⟨b, off, none⟩) (st : Nat → Int) (ln : Nat → Nat) (f : Nat) (s : Int) (w : World) (hM : Moms w b off n st ln) (hbig : n ≤ maxLen) (hf : f ≤ n) :
    Calls Tryz.prog 8 #[.slice p n cap, .int .i64 f, .int .i64 s] w fun e w' =>
      e = .returned (.tuple #[.int .i64 (fst (prevAt (fun i => st i == s) f)), .int .i64 (snd (prevAt (fun i => st i == s) f))]) ∧ Below w.heap.size w w' := by
  have hA : Below w.heap.size w (w.alloc (.cells #[.int .i64 s] 3)) := (Below.refl _ w).alloc (Nat.le_refl _) _
  have h1 := first_prev p b off n cap hp st ln f w.heap.size s (w.alloc (.cells #[.int .i64 s] 3)) (hM.below hA) hbig hf (by simp) (by simp)
  unfold maxLen at hbig
  go_enter Tryz.func8, Tryz.ntmps8
  go_wp2_with (first
    | (go_at_call 20; refine (begins_any s w).mono ?_; rintro e w1 ⟨rfl, rfl⟩)
    | (go_at_call 19; refine h1.mono ?_; rintro e w2 ⟨rfl, hb2⟩)
    | go_in)
  go_ret2
  exact ⟨rfl, hA.trans (hb2.mono hA.size)⟩

set_option maxHeartbeats 1000000 in
theorem backward_out (p : Option Addr) (n cap : Nat) (f : Int) (s : Int) (w : World) (hf : f < 0 ∨ n < f) :
    Calls Tryz.prog 8 #[.slice p n cap, .int .i64 f, .int .i64 s] w fun e w' => e = .returned (.tuple #[.int .i64 0, .int .i64 1]) ∧ w' = w := by
  by_cases h : f < 0
  · go_enter Tryz.func8, Tryz.ntmps8
    go_wp2
    go_ret2
    exact ⟨rfl, rfl⟩
  · have h2 : (n : Int) < f := by omega
    go_enter Tryz.func8, Tryz.ntmps8
    go_wp2
    go_ret2
    exact ⟨rfl, rfl⟩

set_option maxHeartbeats 1000000 in
theorem out_in (p : Option Addr) (b off n cap : Nat) (hp : 0 < n → p = some ⟨b, off, none⟩) (st : Nat → Int) (ln : Nat → Nat) (f : Nat) (w : World) (hM : Moms w b off n st ln) (hbig : n ≤ maxLen) (hf : f < n) :
    Calls Tryz.prog 9 #[.slice p n cap, .int .i64 f] w fun e w' =>
      e = .returned (.tuple #[.int .i64 (fst (nextAt (fun i => decide (ln i < ln f)) (n - (f + 1)) (f + 1))), .int .i64 (snd (nextAt (fun i => decide (ln i < ln f)) (n - (f + 1)) (f + 1)))]) ∧ Below w.heap.size w w' := by
  have hA : Below w.heap.size w ((w.alloc (.cells #[.slice p n cap] 22)).alloc (.cells #[.int .i64 f] 3)) := ((Below.refl _ w).alloc (Nat.le_refl _) _).alloc (by simp) _
  have h1 := first_out p b off n cap hp st ln f w.heap.size (w.heap.size + 1) ((w.alloc (.cells #[.slice p n cap] 22)).alloc (.cells #[.int .i64 f] 3)) (hM.below hA) hbig hf (by simp) (by simp; omega) (by simp) (by simp)
  unfold maxLen at hbig
  go_enter Tryz.func9, Tryz.ntmps9
  go_wp2_with (first
    | (go_at_call 19; refine h1.mono ?_; rintro e w2 ⟨rfl, hb2⟩)
    | go_in)
  go_ret2
  exact ⟨rfl, hA.trans (hb2.mono hA.size)⟩

set_option maxHeartbeats 1000000 in
theorem out_out (p : Option Addr) (n cap : Nat) (f : Int) (w : World) (hf : f < 0 ∨ n ≤ f) :
    Calls Tryz.prog 9 #[.slice p n cap, .int .i64 f] w fun e w' => e = .returned (.tuple #[.int .i64 0, .int .i64 1]) ∧ Below w.heap.size w w' := by
  have hA : Below w.heap.size w ((w.alloc (.cells #[.slice p n cap] 22)).alloc (.cells #[.int .i64 f] 3)) := ((Below.refl _ w).alloc (Nat.le_refl _) _).alloc (by simp) _
  by_cases h : f < 0
  · go_enter Tryz.func9, Tryz.ntmps9
    go_wp2
    go_ret2
    exact ⟨rfl, hA⟩
  · have h2 : (n : Int) ≤ f := by omega
    go_enter Tryz.func9, Tryz.ntmps9
    go_wp2
    go_ret2
    exact ⟨rfl, hA⟩
end Go.Proofs.YtogabhigkmggiaaGreatDoor
