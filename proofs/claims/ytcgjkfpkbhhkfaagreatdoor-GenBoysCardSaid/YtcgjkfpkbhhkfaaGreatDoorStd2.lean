import Derived.Test.YtcgjkfpkbhhkfaaGreatDoorStd1
set_option linter.unusedVariables false
set_option linter.unusedSimpArgs false
set_option linter.unusedSectionVars false
namespace Go.Ev
open Go.Proofs Go.RowKit Go.Sort

def stdW : List (List Nat) := [[97, 98, 115], [101, 110, 116, 105, 101, 114], [105, 110, 105, 110, 116], [111, 117, 116, 98, 111, 111, 108, 101, 97, 110], [111, 117, 116, 105, 110, 116, 101, 103, 101, 114], [111, 117, 116, 114, 101, 97, 108], [111, 117, 116, 115, 116, 114, 105, 110, 103], [115, 105, 103, 110]]
noncomputable def stdV : List AV := mapT AV.str stdW
/-- meaning.Standard -/
noncomputable def extStd : Ext := fun xs h => match xs with
  | [] => some (.sl (nextOf h) 0 (Ev.len stdV) 1, new h (big 9 stdV))
  | _ => none
theorem std_vrs (φ : Map) : VRs φ stdV (stdS.map encStr) := by
  have h : ∀ (l : List (List UInt8)), VRs φ ((l.map fun x => x.map (·.toNat)).map AV.str) (l.map encStr) := by
    intro l
    induction l with
    | nil => exact .nil
    | cons x l ih => exact .cons _ _ _ _ (.str _ _ rfl) ih
  have := h stdS
  have h2 : stdS.map (fun x => x.map (·.toNat)) = stdW := by kernel_rfl
  rw [h2] at this
  show VRs φ (mapT AV.str stdW) _
  rw [mapT_eq]; exact this
theorem contract_std (hsort : AnyZ.SortsIn Tryz.prog Tryz.sortedA_ren Fence.wide 4) (h0 : AHeap) (w0 : World) : Contract Tryz.prog 61 extStd h0 w0 := by
  intro D φ h w xs ys v h' he hx R Fr hD
  have hargs : xs = [] := by
    unfold extStd at he
    split at he
    · rfl
    · cases he
  subst hargs
  cases he
  have hys : ys = #[] := by
    generalize hl : ys.toList = l at hx
    cases hx
    exact Array.toList_inj.mp (by rw [hl])
  subst hys
  refine (Tryz.standard hsort w).mono ?_
  rintro r w' ⟨u, rfl, hrow, hb⟩
  obtain ⟨_, ⟨_, hz⟩ | ⟨g, cap, cur, rfl, hg, hblk, hcap, _, hsz, htake⟩⟩ := hrow
  · cases hz
  have hlen : Ev.len stdV = 8 := by kernel_rfl
  obtain ⟨R1, G1, hM⟩ := R.make_at D (o := Ev.big 9 stdV) (x := .cells cur 9 (0, 0)) (L := ⟨g, 0, cur.size⟩) (w' := w') rfl rfl
    (bigR rfl (by show 0 + Ev.len stdV ≤ cur.size; omega) (fun j u hj hu' => by
      have hj : j < Ev.len stdV := hj
      have hj2 := listT (by rw [← len_eq]; exact hj) hu'
      obtain ⟨p, r1, r2⟩ := (std_vrs φ).get _ hj2
      refine ⟨p, ?_, r2.mono (φ.le_put _ _ (rep_fresh R (Nat.le_refl _)).2)⟩
      show cur[0 + j]? = some p
      rw [← htake, List.getElem?_take] at r1
      split at r1
      · rw [Nat.zero_add, ← Array.getElem?_toList]; exact r1
      · cases r1) (fun _ => .inl rfl)) hg hblk hb
  refine ⟨_, _, rfl, ?_, R1, G1⟩
  rw [nextOf_eq, hlen]
  exact .sl _ 0 _ 1 _ _ hM (by omega) (by show 0 + 0 + _ * 1 ≤ cur.size; omega)
end Go.Ev
