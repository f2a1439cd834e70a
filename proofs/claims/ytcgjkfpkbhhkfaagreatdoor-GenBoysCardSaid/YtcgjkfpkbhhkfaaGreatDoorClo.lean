import Derived.Test.YtcgjkfpkbhhkfaaGreatDoorCloR
import Derived.KernelRfl
set_option linter.unusedVariables false
set_option linter.unusedSimpArgs false
set_option linter.unusedSectionVars false
namespace Go.Clo
open Go Go.Proofs Go.Ev

section
variable (P : Program)
/-- how much is left to do -/
def wt (g : FuncId) : Nat := ((P.funcs[g]?).elim [] P.leadsTo).length + 1
def left (l seen : List FuncId) : Nat := (l.map fun g => if seen.contains g then 0 else wt P g).sum
end
variable {P : Program}
theorem left_le (f : FuncId) (seen : List FuncId) : ∀ l : List FuncId, left P l (f :: seen) ≤ left P l seen
  | [] => Nat.le_refl _
  | g :: l => by
    have ih := left_le f seen l
    simp only [left, List.map_cons, List.sum_cons, List.contains_cons] at ih ⊢
    by_cases h : seen.contains g = true
    · simp only [h, Bool.or_true, if_true]; omega
    · by_cases h2 : (g == f) = true
      · simp only [h2, Bool.true_or, if_true]; omega
      · simp only [h2, Bool.false_or]; omega
theorem left_lt (f : FuncId) (seen : List FuncId) (hs : seen.contains f = false) : ∀ l : List FuncId, f ∈ l → left P l (f :: seen) + wt P f ≤ left P l seen
  | [], h => by cases h
  | g :: l, h => by
    by_cases hg : g = f
    · subst hg
      have ih := left_le (P := P) g seen l
      simp only [left, List.map_cons, List.sum_cons, List.contains_cons, beq_self_eq_true, Bool.true_or, if_true, hs, Bool.false_eq_true, if_false] at ih ⊢
      omega
    · have hm : f ∈ l := by
        rcases List.mem_cons.1 h with e | e
        · exact absurd e.symm hg
        · exact e
      have ih := left_lt f seen hs l hm
      have h2 : (g == f) = false := by simpa using hg
      simp only [left, List.map_cons, List.sum_cons, List.contains_cons, h2, Bool.false_or] at ih ⊢
      omega
/-- enough fuel is enough -/
theorem via_enough : ∀ (n m : Nat) (todo seen : List FuncId), todo.length + left P (List.range P.funcs.size) seen ≤ n → todo.length + left P (List.range P.funcs.size) seen ≤ m → P.closureVia n todo seen = P.closureVia m todo seen
  | n, m, [], seen, _, _ => by cases n <;> cases m <;> rfl
  | 0, m, f :: todo, seen, h, _ => by simp at h
  | n + 1, 0, f :: todo, seen, _, h => by simp at h
  | n + 1, m + 1, f :: todo, seen, hn, hm => by
    simp only [List.length_cons] at hn hm
    unfold Program.closureVia
    cases hs : seen.contains f with
    | true => simp only [if_true]; exact via_enough n m todo seen (by omega) (by omega)
    | false =>
      simp only [Bool.false_eq_true, if_false]
      have key : (((P.funcs[f]?).elim [] P.leadsTo ++ todo).length + left P (List.range P.funcs.size) (f :: seen)) ≤ todo.length + left P (List.range P.funcs.size) seen := by
        rw [List.length_append]
        by_cases hf : f < P.funcs.size
        · have := left_lt (P := P) f seen hs (List.range P.funcs.size) (List.mem_range.2 hf)
          unfold wt at this
          omega
        · have h0 : P.funcs[f]? = none := Array.getElem?_eq_none (Nat.le_of_not_lt hf)
          rw [h0]
          have := left_le (P := P) f seen (List.range P.funcs.size)
          simp only [Option.elim_none, List.length_nil]
          omega
      exact via_enough n m _ _ (by omega) (by omega)
theorem left_start (f : FuncId) : ([f].length + left P (List.range P.funcs.size) []) = 1 + (P.funcs.toList.map fun g => (P.leadsTo g).length + 1).sum := by
  have h : (List.range P.funcs.size).map (fun g => if ([] : List FuncId).contains g then 0 else wt P g) = P.funcs.toList.map fun g => (P.leadsTo g).length + 1 := by
    apply List.ext_getElem
    · simp
    · intro i h1 h2
      have hi : i < P.funcs.size := by simpa using h1
      simp [wt, hi]
  unfold left
  rw [h]; rfl

/-- the same over the table -/
noncomputable def runT : Nat → List Nat → List Nat → Nat → Option (List Nat)
  | _, [], seen, _ => some seen.reverse
  | 0, _ :: _, _, _ => none
  | n + 1, f :: todo, seen, mask =>
    match mask.testBit f with
    | true => runT n todo seen mask
    | false => match tabR.get (pos f) with
      | some r => runT n (r.leads ++ todo) (f :: seen) (mask ||| 1 <<< f)
      | none => none
theorem row_get {g : Nat} {r : FRow} (h : tabR.get (pos g) = some r) : ∃ fn, Tryz.prog.funcs[g]? = some fn ∧ rowOf fn = r := by
  obtain ⟨fn, h1, h2, _⟩ := rowsAll_get tabR RowAt tabR_all _ _ h
  rw [pos_toNat] at h1
  exact ⟨fn, h1, h2⟩
theorem mask_more {mask : Nat} {seen : List Nat} (h : ∀ g, mask.testBit g = seen.contains g) (f : Nat) : ∀ g, (mask ||| 1 <<< f).testBit g = (f :: seen).contains g := by
  intro g
  rw [Nat.testBit_or, Nat.one_shiftLeft, Nat.testBit_two_pow, h g, List.contains_cons, Bool.or_comm]
  congr 1
  by_cases e : f = g
  · subst e; simp
  · simp [e, Ne.symm e]
theorem runT_sound : ∀ (n : Nat) (todo seen : List Nat) (mask : Nat) (L : List Nat), runT n todo seen mask = some L → (∀ g, mask.testBit g = seen.contains g) → ∀ m, n ≤ m → Tryz.prog.closureVia m todo seen = L
  | n, [], seen, mask, L, h, _, m, _ => by
    have h : some seen.reverse = some L := by cases n <;> exact h
    cases h
    cases m <;> rfl
  | 0, f :: todo, seen, mask, L, h, _, m, _ => by cases h
  | n + 1, f :: todo, seen, mask, L, h, hm, m, hnm => by
    obtain ⟨k, rfl⟩ : ∃ k, m = k + 1 := ⟨m - 1, by omega⟩
    unfold runT at h
    unfold Program.closureVia
    have e := hm f
    split at h
    · rename_i hb
      rw [hb] at e
      rw [← e]
      simp only [if_true]
      exact runT_sound n todo seen mask L h hm k (by omega)
    · rename_i hb
      rw [hb] at e
      rw [← e]
      simp only [Bool.false_eq_true, if_false]
      split at h
      · rename_i r hr
        obtain ⟨fn, h1, h2⟩ := row_get hr
        have h3 : (Tryz.prog.funcs[f]?).elim [] Tryz.prog.leadsTo = r.leads := by rw [h1, ← h2]; rfl
        rw [h3]
        exact runT_sound n _ _ _ L h (mask_more hm f) k (by omega)
      · cases h
/-- what a function reaches -/
theorem reach_of {n f : Nat} {L : List Nat} (h : runT n [f] [] 0 = some L) : Tryz.prog.closure f = L := by
  unfold Program.closure
  have h1 := runT_sound n [f] [] 0 L h (fun g => by simp) (n + (1 + (Tryz.prog.funcs.toList.map fun g => (Tryz.prog.leadsTo g).length + 1).sum)) (by omega)
  rw [← h1]
  exact via_enough _ _ _ _ (by rw [left_start]; exact Nat.le_refl _) (by rw [left_start]; omega)

theorem filterMap_congr_mem {α β : Type} {p q : α → Option β} : ∀ {l : List α}, (∀ a ∈ l, p a = q a) → l.filterMap p = l.filterMap q
  | [], _ => rfl
  | a :: l, h => by rw [List.filterMap_cons, List.filterMap_cons, h a (List.mem_cons_self ..), filterMap_congr_mem fun b hb => h b (List.mem_cons_of_mem _ hb)]
theorem flatMap_congr_mem {α β : Type} {p q : α → List β} : ∀ {l : List α}, (∀ a ∈ l, p a = q a) → l.flatMap p = l.flatMap q
  | [], _ => rfl
  | a :: l, h => by rw [List.flatMap_cons, List.flatMap_cons, h a (List.mem_cons_self ..), flatMap_congr_mem fun b hb => h b (List.mem_cons_of_mem _ hb)]
theorem any_congr_mem {α : Type} {p q : α → Bool} : ∀ {l : List α}, (∀ a ∈ l, p a = q a) → l.any p = l.any q
  | [], _ => rfl
  | a :: l, h => by rw [List.any_cons, List.any_cons, h a (List.mem_cons_self ..), any_congr_mem fun b hb => h b (List.mem_cons_of_mem _ hb)]

noncomputable def known (L : List Nat) : Bool := L.all fun g => match tabR.get (pos g) with
  | some _ => true
  | none => false
theorem known_get {L : List Nat} (h : known L = true) {g : Nat} (hg : g ∈ L) : ∃ r fn, tabR.get (pos g) = some r ∧ Tryz.prog.funcs[g]? = some fn ∧ rowOf fn = r := by
  have := List.all_eq_true.1 h g hg
  cases hr : tabR.get (pos g) with
  | none => rw [hr] at this; cases this
  | some r => obtain ⟨fn, h1, h2⟩ := row_get hr; exact ⟨r, fn, rfl, h1, h2⟩
noncomputable def placeT (L : List Nat) : List String := L.filterMap fun g => (tabR.get (pos g)).bind (·.place)
noncomputable def unfT (L : List Nat) : Bool := L.any fun g => (tabR.get (pos g)).any (·.unf)
noncomputable def varsT (L : List Nat) : List Nat := (L.flatMap fun g => (tabR.get (pos g)).elim [] (·.vars)).eraseDups
noncomputable def entryT (L : List Nat) : List String := L.filterMap fun g => (tabR.get (pos g)).bind (·.entry)
theorem inPlace_of {f : Nat} {L : List Nat} (h : Tryz.prog.closure f = L) (hk : known L = true) : Tryz.prog.inPlace f = placeT L := by
  unfold Program.inPlace placeT
  rw [h]
  refine filterMap_congr_mem fun g hg => ?_
  obtain ⟨r, fn, h1, h2, h3⟩ := known_get hk hg
  rw [h1, h2, ← h3]
  rfl
theorem unfollowed_of {f : Nat} {L : List Nat} (h : Tryz.prog.closure f = L) (hk : known L = true) : Tryz.prog.unfollowed f = unfT L := by
  unfold Program.unfollowed unfT
  rw [h]
  refine any_congr_mem fun g hg => ?_
  obtain ⟨r, fn, h1, h2, h3⟩ := known_get hk hg
  rw [h1, h2, ← h3]
  show _ = unfOf fn
  unfold unfOf
  cases hb : fn.body <;> simp only [Option.any_some, hb]
theorem varsNamed_of {f : Nat} {L : List Nat} (h : Tryz.prog.closure f = L) (hk : known L = true) : Tryz.prog.varsNamed f = ((varsT L).filterMap (fun g => (Tryz.prog.globals[g]?).map (·.name)) ++ entryT L).eraseDups := by
  unfold Program.varsNamed varsT entryT
  rw [h]
  have e1 : (L.flatMap fun g => ((Tryz.prog.funcs[g]?).bind (·.body)).elim [] Code.globalsNamed) = L.flatMap fun g => (tabR.get (pos g)).elim [] (·.vars) := by
    refine flatMap_congr_mem fun g hg => ?_
    obtain ⟨r, fn, h1, h2, h3⟩ := known_get hk hg
    rw [h1, h2, ← h3]
    rfl
  have e2 : (L.filterMap fun g => (Tryz.prog.funcs[g]?).bind fun fn => if fn.body.isNone then entryReads.lookup fn.name else none) = L.filterMap fun g => (tabR.get (pos g)).bind (·.entry) := by
    refine filterMap_congr_mem fun g hg => ?_
    obtain ⟨r, fn, h1, h2, h3⟩ := known_get hk hg
    rw [h1, h2, ← h3]
    rfl
  rw [e1, e2]
noncomputable def reach (f : Nat) : List Nat := (runT 2100 [f] [] 0).getD []
theorem reach_eq {f : Nat} (h : (runT 2100 [f] [] 0).isSome = true) : Tryz.prog.closure f = reach f := by
  unfold reach
  cases hr : runT 2100 [f] [] 0 with
  | none => rw [hr] at h; cases h
  | some L => exact reach_of hr
theorem all_rows : known (List.range 632) = true := by kernel_rfl
theorem funcs_size : (Tryz.prog.funcs.size == 632) = true := by kernel_rfl
/-- no function starts a goroutine -/
theorem goes_none {i : Nat} {fn : Func} (h : Tryz.prog.funcs[i]? = some fn) : fn.goes = false := by
  have hs : Tryz.prog.funcs.size = 632 := by simpa using funcs_size
  have hi : i < 632 := by
    rw [← hs]
    exact (Array.getElem?_eq_some_iff.1 h).1
  have := List.all_eq_true.1 all_rows i (List.mem_range.2 hi)
  cases hr : tabR.get (pos i) with
  | none => rw [hr] at this; cases this
  | some r =>
    obtain ⟨gn, h1, _, h3⟩ := rowsAll_get tabR RowAt tabR_all _ _ hr
    rw [pos_toNat, Nat.add_sub_cancel, h] at h1
    cases h1
    exact h3
theorem goes_of (f : FuncId) : Tryz.prog.goes f = false := by
  unfold Program.goes
  have h1 : ((Tryz.prog.closure f).any fun g => (Tryz.prog.funcs[g]?).any Func.goes) = false := by
    rw [List.any_eq_false]
    intro g _
    cases hg : Tryz.prog.funcs[g]? with
    | none => simp
    | some fn => simp [goes_none hg]
  have h2 : Tryz.prog.funcs.any Func.goes = false := by
    rw [Array.any_eq_false]
    intro i hi
    have : Tryz.prog.funcs[i]? = some Tryz.prog.funcs[i] := Array.getElem?_eq_getElem hi
    rw [goes_none this]
    exact Bool.false_ne_true
  rw [h1, h2, Bool.and_false]; rfl
end Go.Clo
