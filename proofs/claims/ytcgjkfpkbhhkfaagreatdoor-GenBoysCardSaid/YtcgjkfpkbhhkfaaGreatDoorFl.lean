import Derived.Test.YtcgjkfpkbhhkfaaGreatDoorTab
import Derived.Shelf.Strings.Fields
set_option linter.unusedVariables false
set_option linter.unusedSimpArgs false
set_option linter.unusedSectionVars false
namespace Go.Proofs
open Go.Shelf
def Tryz.lays157_ren : Go.Shelf.Ren := ⟨fun | 157 => 482 | 229 => 525 | 199 => 526 | 261 => 549 | 311 => 561 | 312 => 562 | n => n, fun | 9 => 9 | 31 => 22 | 3 => 3 | 5 => 5 | 4 => 4 | 119 => 578 | 0 => 0 | 40 => 580 | 152 => 601 | 21 => 21 | 154 => 603 | 51 => 357 | 141 => 605 | 196 => 620 | 193 => 617 | 198 => 623 | 49 => 621 | 194 => 618 | 201 => 626 | 226 => 640 | 46 => 281 | 227 => 641 | n => n, fun | 0 => 0 | 6 => 1 | n => n⟩
theorem Tryz.lays157 : Go.Proofs.Lays.n157 Tryz.prog Tryz.lays157_ren := {
  mixed := by kernel_rfl,
  f157 := Tryz.func482.trans (congrArg some (by kernel_rfl)),
  f199 := Tryz.func526.trans (congrArg some (by kernel_rfl)),
  f229 := Tryz.func525.trans (congrArg some (by kernel_rfl)),
  f261 := Tryz.func549.trans (congrArg some (by kernel_rfl)),
  f311 := Tryz.func561.trans (congrArg some (by kernel_rfl)),
  f312 := Tryz.func562.trans (congrArg some (by kernel_rfl)),
  t0 := Tryz.underlying0,
  a0 := Tryz.isAgg0,
  z0 := Tryz.sizeOf0,
  v0 := Tryz.zeroValue0,
  t3 := Tryz.underlying3,
  a3 := Tryz.isAgg3,
  z3 := Tryz.sizeOf3,
  v3 := Tryz.zeroValue3,
  t4 := Tryz.underlying4,
  a4 := Tryz.isAgg4,
  z4 := Tryz.sizeOf4,
  v4 := Tryz.zeroValue4,
  t5 := Tryz.underlying5,
  a5 := Tryz.isAgg5,
  z5 := Tryz.sizeOf5,
  v5 := Tryz.zeroValue5,
  t9 := Tryz.underlying9,
  a9 := Tryz.isAgg9,
  z9 := Tryz.sizeOf9,
  v9 := Tryz.zeroValue9,
  t21 := Tryz.underlying21,
  a21 := Tryz.isAgg21,
  z21 := Tryz.sizeOf21,
  v21 := Tryz.zeroValue21,
  t31 := Tryz.underlying22,
  a31 := Tryz.isAgg22,
  z31 := Tryz.sizeOf22,
  v31 := Tryz.zeroValue22,
  t40 := Tryz.underlying580,
  a40 := Tryz.isAgg580,
  z40 := Tryz.sizeOf580,
  v40 := Tryz.zeroValue580,
  t46 := Tryz.underlying281,
  a46 := Tryz.isAgg281,
  z46 := Tryz.sizeOf281,
  v46 := Tryz.zeroValue281,
  t49 := Tryz.underlying621,
  a49 := Tryz.isAgg621,
  z49 := Tryz.sizeOf621,
  v49 := Tryz.zeroValue621,
  t51 := Tryz.underlying357,
  a51 := Tryz.isAgg357,
  z51 := Tryz.sizeOf357,
  v51 := Tryz.zeroValue357,
  t119 := Tryz.underlying578,
  a119 := Tryz.isAgg578,
  z119 := Tryz.sizeOf578,
  t141 := Tryz.underlying605,
  a141 := Tryz.isAgg605,
  z141 := Tryz.sizeOf605,
  v141 := Tryz.zeroValue605,
  t152 := Tryz.underlying601,
  a152 := Tryz.isAgg601,
  z152 := Tryz.sizeOf601,
  v152 := Tryz.zeroValue601,
  t154 := Tryz.underlying603,
  a154 := Tryz.isAgg603,
  z154 := Tryz.sizeOf603,
  v154 := Tryz.zeroValue603,
  t193 := Tryz.underlying617,
  a193 := Tryz.isAgg617,
  z193 := Tryz.sizeOf617,
  v193 := Tryz.zeroValue617,
  t194 := Tryz.underlying618,
  a194 := Tryz.isAgg618,
  z194 := Tryz.sizeOf618,
  v194 := Tryz.zeroValue618,
  t196 := Tryz.underlying620,
  a196 := Tryz.isAgg620,
  z196 := Tryz.sizeOf620,
  v196 := Tryz.zeroValue620,
  t198 := Tryz.underlying623,
  a198 := Tryz.isAgg623,
  z198 := Tryz.sizeOf623,
  v198 := Tryz.zeroValue623,
  t201 := Tryz.underlying626,
  a201 := Tryz.isAgg626,
  z201 := Tryz.sizeOf626,
  v201 := Tryz.zeroValue626,
  t226 := Tryz.underlying640,
  a226 := Tryz.isAgg640,
  z226 := Tryz.sizeOf640,
  v226 := Tryz.zeroValue640,
  t227 := Tryz.underlying641,
  a227 := Tryz.isAgg641,
  z227 := Tryz.sizeOf641,
  v227 := Tryz.zeroValue641,
  g0 := by kernel_rfl,
  g6 := by kernel_rfl }
end Go.Proofs
namespace Go.Ev
open Go.Proofs

def kw : List Nat := [98, 101, 103, 105, 110, 32, 101, 110, 100, 32, 105, 102, 32, 116, 104, 101, 110, 32, 101, 108, 115, 101, 32, 102, 111, 114, 32, 100, 111, 32, 115, 116, 101, 112, 32, 117, 110, 116, 105, 108, 32, 119, 104, 105, 108, 101, 32, 103, 111, 116, 111, 32, 111, 119, 110, 32, 105, 110, 116, 101, 103, 101, 114, 32, 114, 101, 97, 108, 32, 98, 111, 111, 108, 101, 97, 110, 32, 97, 114, 114, 97, 121, 32, 115, 119, 105, 116, 99, 104, 32, 112, 114, 111, 99, 101, 100, 117, 114, 101, 32, 118, 97, 108, 117, 101, 32, 108, 97, 98, 101, 108, 32, 115, 116, 114, 105, 110, 103, 32, 116, 114, 117, 101, 32, 102, 97, 108, 115, 101, 32, 99, 111, 109, 109, 101, 110, 116, 32, 110, 111, 116, 32, 97, 110, 100, 32, 111, 114, 32, 105, 109, 112, 32, 101, 113, 118]
def kwW : List (List Nat) := [[98, 101, 103, 105, 110], [101, 110, 100], [105, 102], [116, 104, 101, 110], [101, 108, 115, 101], [102, 111, 114], [100, 111], [115, 116, 101, 112], [117, 110, 116, 105, 108], [119, 104, 105, 108, 101], [103, 111, 116, 111], [111, 119, 110], [105, 110, 116, 101, 103, 101, 114], [114, 101, 97, 108], [98, 111, 111, 108, 101, 97, 110], [97, 114, 114, 97, 121], [115, 119, 105, 116, 99, 104], [112, 114, 111, 99, 101, 100, 117, 114, 101], [118, 97, 108, 117, 101], [108, 97, 98, 101, 108], [115, 116, 114, 105, 110, 103], [116, 114, 117, 101], [102, 97, 108, 115, 101], [99, 111, 109, 109, 101, 110, 116], [110, 111, 116], [97, 110, 100], [111, 114], [105, 109, 112], [101, 113, 118]]
noncomputable def kwV : List AV := mapT AV.str kwW
/-- strings.Fields of the one string -/
noncomputable def extFields : Ext := fun xs h => match xs with
  | [.str s] => gd (seq s kw) (some (.sl (nextOf h) 0 (Ev.len kwV) 1, new h (big 9 kwV)))
  | _ => none
def TabW (w : World) : Prop := 0 < w.heap.size ∧ ∀ c : Nat, c < 256 → w.cell? ⟨0, c, none⟩ = some (.int .u8 (if Lib.isSp (UInt8.ofNat c) then 1 else 0))
def kwB : List UInt8 := kw.map UInt8.ofNat
theorem kw_fields : (Lib.fields kwB).map (fun l => l.map (·.toNat)) = kwW := by kernel_rfl
theorem kw_ascii : ∀ b ∈ kwB, b.toNat < 128 := by
  have : kwB.all (fun b => decide (b.toNat < 128)) = true := by kernel_rfl
  intro b hb
  simpa using List.all_eq_true.mp this b hb
theorem bytes_of {bs : ByteArray} (h : bs.data.toList.map (·.toNat) = kw) : bs.data.toList = kwB := by
  unfold kwB
  rw [← h, List.map_map]
  conv => lhs; rw [← List.map_id bs.data.toList]
  exact List.map_congr_left fun x _ => by simp
theorem words_vrs (φ : Map) : ∀ (l : List (List UInt8)), VRs φ ((l.map fun x => x.map (·.toNat)).map AV.str) (l.map fun x => Value.string ⟨x.toArray⟩) := by
  intro l
  induction l with
  | nil => exact .nil
  | cons x l ih => exact .cons _ _ _ _ (.str _ _ rfl) ih

theorem contract_fields (h0 : AHeap) (w0 : World) (hT : TabW w0) : Contract Tryz.prog 482 extFields h0 w0 := by
  intro D φ h w xs ys v h' he hx R Fr hD
  have hargs : ∃ s, xs = [.str s] := by
    unfold extFields at he
    split at he
    · exact ⟨_, rfl⟩
    · cases he
  obtain ⟨s, rfl⟩ := hargs
  obtain ⟨h1, he⟩ := gd_inv (b := seq s kw) he
  have h1 : s = kw := (seq_iff _ _).mp h1
  subst h1
  cases he
  have hys : ∃ bs : ByteArray, bs.data.toList.map (·.toNat) = kw ∧ ys = #[.string bs] := by
    generalize hl : ys.toList = l at hx
    cases hx with
    | cons _ u _ us h1 h2 =>
      cases h2
      cases h1 with
      | str _ bs hb => exact ⟨bs, hb, Array.toList_inj.mp (by rw [hl])⟩
  obtain ⟨bs, hbs, rfl⟩ := hys
  have hB := bytes_of hbs
  have hcell : ∀ c : Nat, c < 256 → w.cell? ⟨0, c, none⟩ = some (.int .u8 (if Lib.isSp (UInt8.ofNat c) then 1 else 0)) := fun c hc => by
    rw [← hT.2 c hc]
    have := Fr.keep 0 hT.1 (fun b L h => by cases h)
    simp only [World.cell?, this]
  have hcall := Any.strings_Fields_core Tryz.lays157 (by kernel_rfl) bs w (by
    have : bs.size = kwB.length := by
      rw [← hB]
      show bs.data.size = _
      rw [Array.length_toList]
    rw [this]
    have h2 : kwB.length = kw.length := List.length_map ..
    rw [h2]
    have h3 : kw.length = 156 := by kernel_rfl
    omega) (fun j b hj => kw_ascii b (by rw [← hB]; exact List.mem_of_getElem? hj)) hcell
  rw [hB] at hcall
  refine hcall.mono ?_
  rintro r w' ⟨rfl, rfl⟩
  have hV : VRs φ kwV ((Lib.fields kwB).map fun l => Value.string ⟨l.toArray⟩) := by
    have := words_vrs φ (Lib.fields kwB)
    rw [kw_fields] at this
    show VRs φ (mapT AV.str kwW) _
    rw [mapT_eq]; exact this
  have hlen : Ev.len kwV = (Lib.fields kwB).length := by
    rw [len_eq, hV.length]; simp
  generalize hcs : (List.map (fun l => Value.string ⟨l.toArray⟩) (Lib.fields kwB)).toArray = cs
  have hcs2 : cs.toList = (Lib.fields kwB).map fun l => Value.string ⟨l.toArray⟩ := by rw [← hcs]
  have hsz : cs.size = (Lib.fields kwB).length := by rw [← Array.length_toList, hcs2]; simp
  obtain ⟨R1, G1, hM⟩ := R.make D (o := Ev.big 9 kwV) (x := .cells cs 9 (0, 0)) (csz := cs.size) (w' := w.alloc (.cells cs 9)) rfl rfl
    (bigR rfl (by show 0 + Ev.len kwV ≤ cs.size; omega) (fun j u hj hu' => by
      have hj : j < Ev.len kwV := hj
      have hj2 := listT (by rw [← len_eq]; exact hj) hu'
      obtain ⟨p, r1, r2⟩ := hV.get _ hj2
      refine ⟨p, ?_, r2.mono (φ.le_put _ _ (rep_fresh R (Nat.le_refl _)).2)⟩
      show cs[0 + j]? = some p
      rw [Nat.zero_add, ← Array.getElem?_toList, hcs2]; exact r1) (fun _ => .inl rfl)) rfl rfl rfl rfl
  refine ⟨_, _, rfl, ?_, R1, G1⟩
  rw [nextOf_eq, hlen]
  exact .sl _ 0 _ 1 _ _ hM (Nat.le_refl _) (by show 0 + 0 + _ * 1 ≤ cs.size; omega)
end Go.Ev
