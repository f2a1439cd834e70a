import Derived.Test.YtcgjkfpkbhhkfaaGreatDoorTabOk
import Derived.Test.YtcgjkfpkbhhkfaaGreatDoorE4
import Derived.Shelf.SlIter.Nil
import Derived.Sort.KeysCollected
set_option linter.unusedVariables false
set_option linter.unusedSimpArgs false
set_option linter.unusedSectionVars false
namespace Go.Ev
open Go.Proofs

noncomputable def stdM : AObj := .map [((.str [97, 98, 115]), (.agg [(N 1), (.bool true), (.func 261 [] [(.ptr (Q 2) 0)])])), ((.str [115, 105, 103, 110]), (.agg [(N 1), (.bool true), (.func 261 [] [(.ptr (Q 4) 0)])])), ((.str [101, 110, 116, 105, 101, 114]), (.agg [(N 1), (.bool true), (.func 261 [] [(.ptr (Q 6) 0)])])), ((.str [105, 110, 105, 110, 116]), (.agg [(N 0), (.bool true), (.func 204 [] [])])), ((.str [111, 117, 116, 105, 110, 116, 101, 103, 101, 114]), (.agg [(N 1), (.bool false), (.func 265 [] [(.ptr (Q 8) 0)])])), ((.str [111, 117, 116, 114, 101, 97, 108]), (.agg [(N 1), (.bool false), (.func 265 [] [(.ptr (Q 10) 0)])])), ((.str [111, 117, 116, 98, 111, 111, 108, 101, 97, 110]), (.agg [(N 1), (.bool false), (.func 265 [] [(.ptr (Q 12) 0)])])), ((.str [111, 117, 116, 115, 116, 114, 105, 110, 103]), (.agg [(N 1), (.bool false), (.func 206 [] [])]))]
noncomputable def mStd : Memo := ⟨137, [], Q 1, [], 105, (.map (Q 1)), Q 14, [], [(Q 1, stdM), (Q 2, (.small 3 [(N 1)])), (Q 4, (.small 3 [(N 2)])), (Q 6, (.small 3 [(N 3)])), (Q 8, (.small 3 [(N 1)])), (Q 10, (.small 3 [(N 2)])), (Q 12, (.small 3 [(N 3)]))]⟩
theorem mStd_ok : memoOk Tryz.prog F (fun _ => none) mStd = true := by kernel_rfl
theorem mStd_shut : memoShut mStd = true := by kernel_rfl
def stdNames : List (List Nat) := [[97, 98, 115], [115, 105, 103, 110], [101, 110, 116, 105, 101, 114], [105, 110, 105, 110, 116], [111, 117, 116, 105, 110, 116, 101, 103, 101, 114], [111, 117, 116, 114, 101, 97, 108], [111, 117, 116, 98, 111, 111, 108, 101, 97, 110], [111, 117, 116, 115, 116, 114, 105, 110, 103]]
def stdB : List (List UInt8) := stdNames.map fun s => s.map UInt8.ofNat
def R1 {H : Type} : Value → Option (DataW H × List MemPlace) := fun _ => some (.lit (.bool true), [])
def stdD : DataW Unit := .map ((stdB.map fun s => (Lit.string s, (DataW.lit (.bool true) : DataW Unit))).foldr DataW.insert [])
theorem stdD_keys : Go.strKeys stdD = [[97, 98, 115], [101, 110, 116, 105, 101, 114], [105, 110, 105, 110, 116], [111, 117, 116, 98, 111, 111, 108, 101, 97, 110], [111, 117, 116, 105, 110, 116, 101, 103, 101, 114], [111, 117, 116, 114, 101, 97, 108], [111, 117, 116, 115, 116, 114, 105, 110, 103], [115, 105, 103, 110]] := by kernel_rfl

/-- entries whose keys are strings -/
theorem EsR.strings {φ : Map} : ∀ {es : List (AV × AV)} {fs : List MapEntry} {ns : List (List Nat)}, EsR φ es fs → es.map (·.1) = ns.map AV.str → ∀ (b : ∀ s ∈ ns, s.length ≤ maxLen),
    (∀ x ∈ fs, ∃ y, WideElems.rd Tryz.prog 9 (R1 (H := Unit)) x = some y) ∧ fs.map (WideElems.rg Tryz.prog 9 (R1 (H := Unit))) = ns.map fun s => (Lit.string (s.map UInt8.ofNat), .lit (.bool true)) := by
  intro es fs ns H
  induction H generalizing ns with
  | nil =>
    intro hn _
    cases ns with
    | nil => exact ⟨fun x hx => (nomatch hx), rfl⟩
    | cons s ns => cases hn
  | cons k v e es fs hk hv hs ih =>
    intro hn hb
    cases ns with
    | nil => cases hn
    | cons s ns =>
      obtain ⟨h1, h2⟩ := List.cons.inj hn
      have h1 : k = .str s := h1
      subst h1
      obtain ⟨i1, i2⟩ := ih h2 fun s hs => hb s (List.mem_cons_of_mem _ hs)
      obtain ⟨key, val, born⟩ := e
      cases hk with
      | str _ bs hbs =>
        have hd : bs.data.toList = s.map UInt8.ofNat := by
          rw [← hbs, List.map_map]
          conv => lhs; rw [← List.map_id bs.data.toList]
          exact List.map_congr_left fun x _ => by simp
        have hsz : bs.size ≤ maxLen := by
          have : bs.size = s.length := by
            rw [← hbs, List.length_map]
            show bs.data.size = _
            rw [Array.length_toList]
          rw [this]; exact hb s List.mem_cons_self
        have hr : WideElems.rd Tryz.prog 9 (R1 (H := Unit)) ⟨.string bs, val, born⟩ = some (.string (s.map UInt8.ofNat), .lit (.bool true)) := by
          rw [← hd]; exact WideElems.rd_mk (R := R1 (H := Unit)) (yv := (.lit (.bool true), [])) (WideMaps.keyOf_string_mk Tryz.underlying9 hsz) rfl
        refine ⟨fun x hx => ?_, ?_⟩
        · rcases List.mem_cons.mp hx with rfl | hx
          · exact ⟨_, hr⟩
          · exact i1 x hx
        · rw [List.map_cons, List.map_cons, i2, WideElems.rg_of hr]

/-- meaning.standards -/
theorem standards_makes (w : World) : Calls Tryz.prog 137 #[] w fun e w' => ∃ b, e = .returned (.map (some b)) ∧ w'.ownsMap Tryz.prog 9 (R1 (H := Unit)) b 8 stdD ∧ RowKit.Below w.heap.size w w' := by
  have h := memo_rel (D := fun _ => False) (φ := fun _ => none) (h0 := ⟨.leaf, .H⟩) (h := ⟨.leaf, .H⟩) (w := w) (w0 := w) mixed F_ok XAll.none rfl mStd_ok mStd_shut (xs := []) (ys := #[]) (by kernel_rfl) .nil (rep_none w) (Grows.refl _ _ _ _) (fun _ h => h.elim)
  refine h.mono ?_
  rintro e w' ⟨u, φ', rfl, h1, R, G⟩
  have h1 : VR φ' (.map (Q 1)) u := h1
  cases h1 with
  | map _ L hL =>
    obtain ⟨fs, clock, h2, h3, h4⟩ := R.map (es := _) (show (out mStd ⟨.leaf, .H⟩).t.get (Q 1) = some stdM by kernel_rfl) hL
    obtain ⟨h5, h6⟩ := EsR.strings (ns := stdNames) h3 rfl (by
      have : stdNames.all (fun s => decide (s.length ≤ 100)) = true := by kernel_rfl
      intro s hs
      have := List.all_eq_true.mp this s hs
      have h : s.length ≤ 100 := by simpa using this
      exact Nat.le_trans h (by decide))
    have hlen : fs.size = 8 := by
      have := h3.length
      rw [← Array.length_toList]; exact this.symm
    refine ⟨_, rfl, ⟨fs, clock, h2, ⟨by rw [hlen]; decide, h4 ?_, h5⟩, by omega, by rw [h6]; rfl⟩, ⟨G.os, G.tape, G.output, G.size, fun k hk => G.keep k hk fun b L h => by cases h⟩⟩
    have : (List.all (match stdM with | .map es => es | _ => []) fun p => litK p.1) = true := by kernel_rfl
    intro p hp
    exact List.all_eq_true.mp this p hp
end Go.Ev
