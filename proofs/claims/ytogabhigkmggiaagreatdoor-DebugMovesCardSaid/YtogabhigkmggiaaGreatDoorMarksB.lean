import Derived.Test.YtogabhigkmggiaaGreatDoorMarksA
import Derived.Maps.RangeWalk
set_option linter.unusedVariables false
set_option linter.unusedSimpArgs false
set_option linter.unusedSectionVars false
namespace Go.Proofs
open Go.RowKit Go.Maps

def marksD : DataW Unit := .map [(.int .i64 0, .lit (.int .i64 1)), (.int .i64 3, .lit (.int .i64 45)), (.int .i64 5, .lit (.int .i64 4)), (.int .i64 8, .lit (.int .i64 8)), (.int .i64 9, .lit (.int .i64 12))]
def marksT : Nat → Option Int
  | 0 => some 1
  | 3 => some 45
  | 5 => some 4
  | 8 => some 8
  | 9 => some 12
  | _ => none
def marksV (left : Lit → Bool) (i : Nat) : Int := match marksT i with
  | some c => if left (.int .i64 i) = true then -1 else c
  | none => -1
theorem law3 : Keyed Tryz.prog 3 := int_keyed Tryz.underlying3
theorem marks_at {x c : Int} (h : ∀ zd, marksD.atKey (.int .i64 x) zd = .lit (.int .i64 c)) : ∃ i : Nat, i < 10 ∧ x = i ∧ marksT i = some c := by
  have h1 := h .nil
  by_cases h0 : x = 0
  · subst h0; cases h1; exact ⟨0, by omega, rfl, rfl⟩
  by_cases h3 : x = 3
  · subst h3; cases h1; exact ⟨3, by omega, rfl, rfl⟩
  by_cases h5 : x = 5
  · subst h5; cases h1; exact ⟨5, by omega, rfl, rfl⟩
  by_cases h8 : x = 8
  · subst h8; cases h1; exact ⟨8, by omega, rfl, rfl⟩
  by_cases h9 : x = 9
  · subst h9; cases h1; exact ⟨9, by omega, rfl, rfl⟩
  have e : ∀ n : Int, n ≠ x → (Lit.int .i64 n).sameKey (.int .i64 x) = false := fun n hn => by simp [Lit.sameKey, hn]
  simp [marksD, DataW.atKey, e 0 (Ne.symm h0), e 3 (Ne.symm h3), e 5 (Ne.symm h5), e 8 (Ne.symm h8), e 9 (Ne.symm h9)] at h1
theorem marks_start : ∀ i < 10, marksV (Maps.has marksD) i = -1 := by decide
theorem marks_step {left : Lit → Bool} {i : Nat} {v : Int} (hm : marksT i = some v) (j : Nat) : marksV (fun z => left z && !z.sameKey (.int .i64 i)) j = if j = i then v else marksV left j := by
  by_cases h : j = i
  · subst h
    simp [marksV, hm, Lit.sameKey]
  · have h2 : (Lit.int .i64 (j : Int)).sameKey (.int .i64 i) = false := by simp [Lit.sameKey]; omega
    simp [marksV, h2, h]
theorem setCell_heap {w : World} {g i : Nat} {c : Array Value} {t : TypeId} {fz : Nat × Nat} (v : Value) (h : w.heap[g]? = some (.cells c t fz)) : (w.setCell ⟨g, i, none⟩ v).heap[g]? = some (.cells (c.setIfInBounds i v) t fz) := by
  simp [World.setCell, Array.getElem?_modify, h]

theorem cell_there {w w' : World} (hb : Below w.heap.size w w') {a : Addr} {v : Value} (h : w.cell? a = some v) : w'.cell? a = some v := by
  rcases Nat.lt_or_ge a.block w.heap.size with hl | hl
  · simp only [World.cell?, hb.block _ hl] at h ⊢
    exact h
  · have : w.heap[a.block]? = none := Array.getElem?_eq_none hl
    simp [World.cell?, this] at h

set_option maxHeartbeats 2000000 in
set_option maxRecDepth 100000 in
theorem Tryz.marks (v0 v1 v2 v3 v4 v5 v6 v7 : Value) (w : World) (S : World → Prop)
    (h72 : Calls Tryz.prog 72 #[.agg #[v0, v1, v2, v3, v4, v5, v6, v7]] (w.alloc (.cells #[v0, v1, v2, v3, v4, v5, v6, v7] 45)) fun r w1 => ∃ blk off b, r = .returned (.tuple #[.pointer (some ⟨blk, off, none⟩), .int .i64 10, .int .i64 0]) ∧ w1.cell? ⟨blk, off + 8, none⟩ = some (.map (some b)) ∧ w1.ownsMap Tryz.prog 3 (plainElem Tryz.prog 3) b 5 marksD ∧ S w1) :
    Calls Tryz.prog 48 #[.agg #[v0, v1, v2, v3, v4, v5, v6, v7]] w fun r w' => ∃ w1 g off cap cur lo hi, S w1 ∧ r = .returned (.tuple #[.slice (some ⟨g, off, none⟩) 10 cap, .int .i64 0]) ∧ w1.heap.size ≤ g ∧ w'.heap[g]? = some (.cells cur 3 (lo, hi)) ∧
      (lo = hi ∨ hi ≤ off) ∧ (10 ≤ cap ∧ off + cap ≤ cur.size) ∧ (∀ i < 10, cur[off + i]? = some (.int .i64 (marksV (fun _ => false) i))) ∧ Below w1.heap.size w1 w' := by
  go_enter Tryz.func48, Tryz.ntmps48
  go_wp2_with (first
    | (go_at_call 72; refine h72.mono ?_; rintro e w1 ⟨blk, off, b, rfl, hcell, hown, hS⟩)
    | (go_at_call 74; refine (Ev.repeat10 w1).mono ?_; rintro e w2 ⟨g, o, cap, cur, lo, hi, rfl, hg, hcur, hfr, hfit, hneg, hb2⟩; have hcell2 := cell_there hb2 hcell)
    | (at_range; refine wpList_range_own _ rfl _ 168 rfl 3 3 law3 Tryz.underlying168 _ b 5 _ rfl (hown.kept (row := none) ⟨hb2.os, hb2.tape, hb2.output, hb2.size, fun k hk _ => hb2.block k hk⟩ (by simp)) ?_; intro w0 hrg0 hg0 hs0)
    | go_in)
  go_frame
  have hbg : b ≠ g := fun h => by have := hown.lt; omega
  have hgl : g < w2.heap.size := (Array.getElem?_eq_some_iff.mp hcur).1
  go_loopw [8, 9] (fun _ _ wr => ∃ (left : Lit → Bool) (cnt : Nat) (c : Array Value), wr.ranges Tryz.prog 3 (plainElem Tryz.prog 3) b w2.heap.size 5 marksD left cnt ∧ wr.heap[g]? = some (.cells c 3 (lo, hi)) ∧ c.size = cur.size ∧ (∀ i < 10, c[o + i]? = some (.int .i64 (marksV left i))) ∧ Below w1.heap.size w1 wr)
    (fun _ _ wr => wr.rangeLeft b w2.heap.size)
  case atStart =>
    exact ⟨_, _, cur, hrg0, (hg0.block g hgl (by simp)).trans hcur, rfl, fun i hi10 => by rw [marks_start i hi10]; exact hneg i hi10, hb2.trans ⟨hg0.os, hg0.tape, hg0.output, hg0.size, fun k hk => hg0.block k (by have := hb2.size; omega) (by simp)⟩⟩
  case round =>
    obtain ⟨left, cnt, c, hrg, hc, hcs, hcv, hbw⟩ := hrel
    go_wp2_with (first
      | (at_next; refine wpList_next_ranges_ii _ rfl _ rfl 3 3 .i64 .i64 law3 Tryz.underlying3 Tryz.underlying3 b w2.heap.size 5 _ _ _ rfl hrg ?_ ?_)
      | go_in)
    · intro _ hl0
      go_wp2
      have hl : left = fun _ => false := funext hl0
      rw [hl] at hcv
      exact bodyPost_ret (v := .tuple #[.slice (some ⟨g, o, none⟩) 10 cap, .int .i64 0]) (by simp [results, Tryz.results48, go_sem]) rfl ⟨w1, g, o, cap, c, lo, hi, hS, rfl, hg, hc, hfr, by rw [hcs]; exact hfit, hcv, hbw⟩
    · intro x v w3 cnt3 hwx hwc hlx hat hrg3 hlt hg3 hs3 hen
      obtain ⟨i, hi10, rfl, hm⟩ := marks_at hat
      have hgl2 : g < wr.heap.size := (Array.getElem?_eq_some_iff.mp hc).1
      have hgc : w3.heap[g]? = some (.cells c 3 (lo, hi)) := (hg3.block g hgl2 (by simp; omega)).trans hc
      have hcl : w3.cell? ⟨g, o + i, none⟩ = some (.int .i64 (marksV left i)) := by simp [World.cell?, hgc, hcv i hi10]
      have hfz : w3.frozen? ⟨g, o + i, none⟩ = false := by
        simp only [World.frozen?, hgc]
        rcases hfr with h | h
        · subst h; simp <;> omega
        · simp <;> omega
      go_wp2
      have hrg4 := hrg3.kept (w' := w3.setCell ⟨g, o + i, none⟩ (.int .i64 v)) (row := some g) ⟨rfl, rfl, rfl, by simp, fun k _ hk => heap_setCell_other _ _ _ _ (by simpa using hk)⟩ (by simpa using hbg) (by simp; omega)
      have hb4 : Below w1.heap.size w1 (w3.setCell ⟨g, o + i, none⟩ (.int .i64 v)) := by
        refine hbw.trans ⟨hg3.os, hg3.tape, hg3.output, by simp [hs3], fun k hk => ?_⟩
        have := hbw.size
        have h2 := hb2.size
        rw [heap_setCell_other _ _ _ _ (by show k ≠ g; omega)]
        exact hg3.block k (by omega) (by simp; omega)
      go_roundw
      case rel =>
        refine ⟨_, cnt3, c.setIfInBounds (o + i) (.int .i64 v), hrg4, setCell_heap _ hgc, by simpa using hcs, fun j hj => ?_, hb4⟩
        rw [marks_step hm, Array.getElem?_setIfInBounds]
        by_cases h : j = i
        · subst h; rw [if_pos rfl, if_pos rfl, if_pos (by omega)]
        · rw [if_neg (by omega), if_neg h]; exact hcv j hj
      case measure => rw [hrg4.left_eq, hrg.left_eq]; exact hlt
end Go.Proofs
