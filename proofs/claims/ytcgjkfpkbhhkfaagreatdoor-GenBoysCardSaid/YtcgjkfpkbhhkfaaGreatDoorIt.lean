import Derived.Test.YtcgjkfpkbhhkfaaGreatDoorFl
import Derived.Test.YtcgjkfpkbhhkfaaGreatDoorE4
import Derived.Shelf.Strconv.Itoa3
set_option linter.unusedVariables false
set_option linter.unusedSimpArgs false
set_option linter.unusedSectionVars false
namespace Go.Proofs
open Go.Shelf
def Tryz.lays171_ren : Go.Shelf.Ren := ⟨fun | 171 => 399 | 243 => 466 | 246 => 513 | 283 => 540 | 284 => 541 | 285 => 542 | 286 => 543 | 129 => 337 | 317 => 554 | 318 => 555 | 319 => 556 | 320 => 557 | 337 => 566 | 338 => 567 | n => n, fun | 3 => 3 | 9 => 9 | 2 => 2 | 4 => 4 | 171 => 590 | 0 => 0 | 53 => 360 | 37 => 171 | 5 => 5 | 173 => 592 | 212 => 614 | 51 => 357 | 20 => 20 | 213 => 615 | 46 => 281 | 232 => 646 | 233 => 647 | n => n, fun | 17 => 2 | 18 => 4 | 19 => 5 | n => n⟩
theorem Tryz.lays171 : Go.Proofs.LaysM.n171 Tryz.prog Tryz.lays171_ren := {
  mixed := by kernel_rfl,
  f129 := Tryz.func337.trans (congrArg some (by kernel_rfl)),
  f171 := Tryz.func399.trans (congrArg some (by kernel_rfl)),
  f243 := Tryz.func466.trans (congrArg some (by kernel_rfl)),
  f246 := Tryz.func513.trans (congrArg some (by kernel_rfl)),
  f283 := Tryz.func540.trans (congrArg some (by kernel_rfl)),
  f284 := Tryz.func541.trans (congrArg some (by kernel_rfl)),
  f285 := Tryz.func542.trans (congrArg some (by kernel_rfl)),
  f286 := Tryz.func543.trans (congrArg some (by kernel_rfl)),
  f317 := Tryz.func554.trans (congrArg some (by kernel_rfl)),
  f318 := Tryz.func555.trans (congrArg some (by kernel_rfl)),
  f319 := Tryz.func556.trans (congrArg some (by kernel_rfl)),
  f320 := Tryz.func557.trans (congrArg some (by kernel_rfl)),
  f337 := Tryz.func566.trans (congrArg some (by kernel_rfl)),
  f338 := Tryz.func567.trans (congrArg some (by kernel_rfl)),
  t0 := Tryz.underlying0,
  a0 := Tryz.isAgg0,
  z0 := Tryz.sizeOf0,
  v0 := Tryz.zeroValue0,
  t2 := Tryz.underlying2,
  a2 := Tryz.isAgg2,
  z2 := Tryz.sizeOf2,
  v2 := Tryz.zeroValue2,
  t3 := Tryz.underlying3,
  a3 := Tryz.isAgg3,
  z3 := Tryz.sizeOf3,
  v3 := Tryz.zeroValue3,
  t4 := Tryz.underlying4,
  a4 := Tryz.isAgg4,
  z4 := Tryz.sizeOf4,
  v4 := Tryz.zeroValue4,
  t5 := Tryz.underlying5,
  a5 := Tryz.isAgg5,
  z5 := Tryz.sizeOf5,
  v5 := Tryz.zeroValue5,
  t9 := Tryz.underlying9,
  a9 := Tryz.isAgg9,
  z9 := Tryz.sizeOf9,
  v9 := Tryz.zeroValue9,
  t20 := Tryz.underlying20,
  a20 := Tryz.isAgg20,
  z20 := Tryz.sizeOf20,
  v20 := Tryz.zeroValue20,
  t37 := Tryz.underlying171,
  a37 := Tryz.isAgg171,
  z37 := Tryz.sizeOf171,
  v37 := Tryz.zeroValue171,
  t46 := Tryz.underlying281,
  a46 := Tryz.isAgg281,
  z46 := Tryz.sizeOf281,
  v46 := Tryz.zeroValue281,
  t51 := Tryz.underlying357,
  a51 := Tryz.isAgg357,
  z51 := Tryz.sizeOf357,
  v51 := Tryz.zeroValue357,
  t53 := Tryz.underlying360,
  a53 := Tryz.isAgg360,
  z53 := Tryz.sizeOf360,
  v53 := Tryz.zeroValue360,
  t171 := Tryz.underlying590,
  a171 := Tryz.isAgg590,
  z171 := Tryz.sizeOf590,
  v171 := Tryz.zeroValue590,
  t173 := Tryz.underlying592,
  a173 := Tryz.isAgg592,
  z173 := Tryz.sizeOf592,
  v173 := Tryz.zeroValue592,
  t212 := Tryz.underlying614,
  a212 := Tryz.isAgg614,
  z212 := Tryz.sizeOf614,
  v212 := Tryz.zeroValue614,
  t213 := Tryz.underlying615,
  a213 := Tryz.isAgg615,
  z213 := Tryz.sizeOf615,
  t232 := Tryz.underlying646,
  a232 := Tryz.isAgg646,
  z232 := Tryz.sizeOf646,
  v232 := Tryz.zeroValue646,
  t233 := Tryz.underlying647,
  a233 := Tryz.isAgg647,
  z233 := Tryz.sizeOf647,
  v233 := Tryz.zeroValue647,
  g17 := by kernel_rfl,
  g18 := by kernel_rfl,
  g19 := by kernel_rfl,
  i0 := by kernel_rfl,
  i2 := by kernel_rfl,
  i3 := by kernel_rfl,
  i4 := by kernel_rfl,
  i5 := by kernel_rfl,
  i9 := by kernel_rfl,
  i20 := by kernel_rfl,
  i37 := by kernel_rfl,
  i46 := by kernel_rfl,
  i51 := by kernel_rfl,
  i53 := by kernel_rfl,
  i171 := by kernel_rfl,
  i173 := by kernel_rfl,
  i212 := by kernel_rfl,
  i232 := by kernel_rfl,
  i233 := by kernel_rfl,
  m17 := by kernel_rfl,
  m18 := by kernel_rfl,
  m19 := by kernel_rfl }
end Go.Proofs
namespace Go.Ev
open Go.Proofs

/-- the two tables of the library that are read -/
def TabsW (w : World) : Prop := TabW w ∧ 2 < w.heap.size ∧ Lib.TabIs Tryz.prog w "internal/strconv.uint64pow10" .u64 Lib.pow10Tab
theorem gPow : Tryz.prog.globalNamed "internal/strconv.uint64pow10" = some 2 := by kernel_rfl
/-- strconv.Itoa of minus two, and of a digit -/
noncomputable def extItoa : Ext := fun xs h => match xs with
  | [.int .i64 (.negSucc 1)] => some (.str [45, 50], h)
  | [.int .i64 (.ofNat n)] => gd (Nat.ble n 9) (some (.str [Nat.add 48 n], h))
  | _ => none
theorem itoa_two : (Lib.itoa (-2)).map (·.toNat) = [45, 50] := by
  have h1 : Lib.itoa (-2) = 45 :: Lib.decDigits 2 := rfl
  rw [h1]
  unfold Lib.decDigits
  decide
theorem itoa_digit {n : Nat} (hn : n ≤ 9) : (Lib.itoa (n : Int)).map (·.toNat) = [48 + n] := by
  have h1 : Lib.itoa (n : Int) = Lib.decDigits n := by
    unfold Lib.itoa
    rw [if_neg (by omega)]
    rfl
  rw [h1]
  unfold Lib.decDigits
  have : n = 0 ∨ n = 1 ∨ n = 2 ∨ n = 3 ∨ n = 4 ∨ n = 5 ∨ n = 6 ∨ n = 7 ∨ n = 8 ∨ n = 9 := by omega
  rcases this with rfl | rfl | rfl | rfl | rfl | rfl | rfl | rfl | rfl | rfl <;> decide
theorem tabs_kept {w w' : World} (hT : TabsW w) (h : w'.heap[2]? = w.heap[2]?) : Lib.TabIs Tryz.prog w' "internal/strconv.uint64pow10" .u64 Lib.pow10Tab := by
  have h1 := hT.2.2
  unfold Lib.TabIs World.var? at h1 ⊢
  rw [gPow] at h1 ⊢
  simp only [Option.bind_some] at h1 ⊢
  rw [h]; exact h1
theorem contract_itoa (h0 : AHeap) (w0 : World) (hT : TabsW w0) : Contract Tryz.prog 399 extItoa h0 w0 := by
  intro D φ h w xs ys v h' he hx R Fr hD
  have hargs : ∃ n : Int, xs = [.int .i64 n] ∧ v = .str ((Lib.itoa n).map (·.toNat)) ∧ h' = h ∧ -9223372036854775808 ≤ n ∧ n ≤ 9223372036854775807 := by
    unfold extItoa at he
    split at he
    · cases he; exact ⟨-2, rfl, by rw [itoa_two], rfl, by decide, by decide⟩
    · rename_i n
      obtain ⟨h1, he⟩ := gd_inv (b := Nat.ble n 9) he
      have h1 : n ≤ 9 := Nat.ble_eq.mp h1
      cases he
      exact ⟨(n : Int), rfl, by rw [itoa_digit h1]; rfl, rfl, by omega, by omega⟩
    · cases he
  obtain ⟨n, rfl, rfl, rfl, hlo, hhi⟩ := hargs
  have hys : ys = #[.int .i64 n] := by
    generalize hl : ys.toList = l at hx
    cases hx with
    | cons _ u _ us h1 h2 =>
      cases h2
      cases h1
      exact Array.toList_inj.mp (by rw [hl])
  subst hys
  have htab := tabs_kept hT (Fr.keep 2 hT.2.1 (fun b L h => by cases h))
  refine (Any.strconv_Itoa Tryz.lays171 n hlo hhi w htab).mono ?_
  rintro r w' ⟨rfl, k, os, rfl⟩
  have hb : RowKit.Below w.heap.size w (Sort.grow (w.drewN k) os) := ⟨rfl, rfl, rfl, by show w.heap.size ≤ (w.heap ++ os).size; simp, fun i hi => by
    show (w.heap ++ os)[i]? = w.heap[i]?
    rw [Array.getElem?_append_left hi]⟩
  obtain ⟨R1, G1⟩ := R.below hb D
  exact ⟨_, φ, rfl, .str _ _ rfl, R1, G1⟩
end Go.Ev
