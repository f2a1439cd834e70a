import Derived.Test.YtogabhigkmggiaaGreatDoorMarksB
set_option linter.unusedVariables false
set_option linter.unusedSimpArgs false
set_option linter.unusedSectionVars false
namespace Go.Ev
open Go.Proofs Go.RowKit

noncomputable def marksL : List AV := [N 1, neg1, neg1, N 45, neg1, N 4, neg1, neg1, N 8, N 12]
/-- gen.Marks of the one program -/
noncomputable def extMarks : Ext := fun xs h => bi (hit m72 xs h) (some (.tup [.sl (nextOf (out m72 h)) 0 10 1, N 0], new (out m72 h) (big 3 marksL))) none
theorem marksL_at : ∀ i, i < 10 → marksL[i]? = some (.int .i64 (marksV (fun _ => false) i))
  | 0, _ => rfl
  | 1, _ => rfl
  | 2, _ => rfl
  | 3, _ => rfl
  | 4, _ => rfl
  | 5, _ => rfl
  | 6, _ => rfl
  | 7, _ => rfl
  | 8, _ => rfl
  | 9, _ => rfl
  | n + 10, h => absurd h (by omega)
/-- entries whose keys and values are numbers -/
theorem EsR.ints {φ : Map} : ∀ {es : List (AV × AV)} {fs : List MapEntry} {ns : List (Int × Int)}, EsR φ es fs → es = ns.map (fun p => (AV.int .i64 p.1, AV.int .i64 p.2)) → (∀ p ∈ ns, (Lit.int .i64 p.1).wf = true ∧ (Lit.int .i64 p.2).wf = true) →
    (∀ x ∈ fs, ∃ y, WideElems.rd Tryz.prog 3 (plainElem (H := Unit) Tryz.prog 3) x = some y) ∧ fs.map (WideElems.rg Tryz.prog 3 (plainElem (H := Unit) Tryz.prog 3)) = ns.map fun p => (Lit.int .i64 p.1, .lit (.int .i64 p.2)) := by
  intro es fs ns H
  induction H generalizing ns with
  | nil =>
    intro hn _
    cases ns with
    | nil => exact ⟨fun x hx => (nomatch hx), rfl⟩
    | cons s ns => cases hn
  | cons k v e es fs hk hv hs ih =>
    intro hn hb
    cases ns with
    | nil => cases hn
    | cons s ns =>
      obtain ⟨h1, h2⟩ := List.cons.inj hn
      obtain ⟨hk1, hv1⟩ := Prod.mk.inj h1
      subst hk1 hv1
      obtain ⟨i1, i2⟩ := ih h2 fun s hs => hb s (List.mem_cons_of_mem _ hs)
      obtain ⟨key, val, born⟩ := e
      obtain ⟨b1, b2⟩ := hb s List.mem_cons_self
      have hk : VR φ (AV.int .i64 s.1) key := hk
      have hv : VR φ (AV.int .i64 s.2) val := hv
      cases hk
      cases hv
      have hr : WideElems.rd Tryz.prog 3 (plainElem (H := Unit) Tryz.prog 3) ⟨.int .i64 s.1, .int .i64 s.2, born⟩ = some (.int .i64 s.1, .lit (.int .i64 s.2)) := WideElems.rd_mk (Maps.keyOf_int_mk Tryz.underlying3 b1) (plainElem_int Tryz.underlying3 b2)
      refine ⟨fun x hx => ?_, ?_⟩
      · rcases List.mem_cons.mp hx with rfl | hx
        · exact ⟨_, hr⟩
        · exact i1 x hx
      · rw [List.map_cons, List.map_cons, i2, WideElems.rg_of hr]
theorem vrs_nil {φ : Map} {l : List Value} (h : VRs φ [] l) : l = [] := by cases h; rfl
theorem vrs_cons {φ : Map} {v : AV} {vs : List AV} {l : List Value} (h : VRs φ (v :: vs) l) : ∃ u us, l = u :: us ∧ VR φ v u ∧ VRs φ vs us := by
  cases h with
  | cons _ u _ us h1 h2 => exact ⟨u, us, rfl, h1, h2⟩
theorem out_new {m : Memo} {h : AHeap} (hn : nodupP (keys m.nl) = true) {b : Pos} {o : AObj} (hm : (b, o) ∈ m.nl) : (out m h).t.get b = some o := by
  obtain ⟨t, n⟩ := h
  exact (setL_get b m.nl _ (by have := nodupP_iff _ hn; rw [keys_eq] at this; exact this)).1 o hm

theorem contract_marks {X : FuncId → Option Ext} {h0 : AHeap} {w0 : World} (HX : XAll Tryz.prog X h0 w0) (hh0 : h0.next = .H) (hok : memoOk Tryz.prog F X m72 = true) : Contract Tryz.prog 48 extMarks h0 w0 := by
  intro D φ h w xs ys v h' he hx R Fr hD
  cases hh : hit m72 xs h with
  | false => unfold extMarks at he; rw [hh] at he; cases he
  | true =>
    unfold extMarks at he
    rw [hh] at he
    cases he
    have hxs : m72.xs = xs := all2_eq (same_eq 20) _ _ (bif_tf (bif_tf (b := bi (none? m72.nl) true (peq m72.next (nextOf h))) hh).2).1
    subst hxs
    obtain ⟨y, us, hy, hvy, hus⟩ := vrs_cons hx
    have := vrs_nil hus
    subst this
    cases hvy with
    | agg _ cs hcs =>
      obtain ⟨v0, l0, e0, _, hcs⟩ := vrs_cons hcs
      obtain ⟨v1, l1, rfl, _, hcs⟩ := vrs_cons hcs
      obtain ⟨v2, l2, rfl, _, hcs⟩ := vrs_cons hcs
      obtain ⟨v3, l3, rfl, _, hcs⟩ := vrs_cons hcs
      obtain ⟨v4, l4, rfl, _, hcs⟩ := vrs_cons hcs
      obtain ⟨v5, l5, rfl, _, hcs⟩ := vrs_cons hcs
      obtain ⟨v6, l6, rfl, _, hcs⟩ := vrs_cons hcs
      obtain ⟨v7, l7, rfl, _, hcs⟩ := vrs_cons hcs
      have := vrs_nil hcs
      subst this
      have ecs : cs = #[v0, v1, v2, v3, v4, v5, v6, v7] := Array.toList_inj.mp e0
      subst ecs
      have eys : ys = #[.agg #[v0, v1, v2, v3, v4, v5, v6, v7]] := Array.toList_inj.mp hy
      subst eys
      have hA : Below w.heap.size w (w.alloc (.cells #[v0, v1, v2, v3, v4, v5, v6, v7] 45)) := (Below.refl _ w).alloc (Nat.le_refl _) _
      obtain ⟨R1, G1⟩ := R.below hA D
      obtain ⟨_, G0⟩ := R.below hA (fun _ => False)
      have h72 := memo_rel (D := D) mixed F_ok HX hh0 hok m72_shut hh hx R1 (Fr.trans G0) hD
      have hw := Tryz.marks v0 v1 v2 v3 v4 v5 v6 v7 w (fun w2 => ∃ φ', Rep Tryz.prog φ' (out m72 h) w2 ∧ Grows D φ φ' h (out m72 h) w w2) (h72.mono (by
        rintro e w2 ⟨u, φ', rfl, hu, R2, G2⟩
        have hu : VR φ' (.tup [(.ptr (Q 1459) 0), (N 10), (N 0)]) u := hu
        cases hu with
        | tup _ ds hds =>
          obtain ⟨p, l0, e0, hp, hds⟩ := vrs_cons hds
          obtain ⟨n, l1, rfl, hn, hds⟩ := vrs_cons hds
          obtain ⟨z, l2, rfl, hz, hds⟩ := vrs_cons hds
          have := vrs_nil hds
          subst this
          have eds : ds = #[p, n, z] := Array.toList_inj.mp e0
          subst eds
          cases hn
          cases hz
          cases hp with
          | ptr _ _ L hL =>
            have hnd : nodupP (keys m72.nl) = true := by kernel_rfl
            obtain ⟨x, hx1, hO⟩ := R2.obj (Q 1459) o18 L (out_new hnd (List.mem_of_getElem? (i := 0) rfl)) hL
            cases hO with
            | cells _ _ e c lo hi he C =>
              obtain ⟨mv, k1, k2⟩ := C.cell 8 (.map (Q 1457)) (by kernel_rfl)
              cases k2 with
              | map _ M hM =>
                obtain ⟨fs, clock, k3, k4, k5⟩ := R2.map (out_new hnd (List.mem_of_getElem? (i := 5) rfl)) hM
                obtain ⟨k6, k7⟩ := EsR.ints (ns := [(0, 1), (5, 4), (8, 8), (9, 12), (3, 45)]) k4 rfl (by decide)
                have hlen : fs.size = 5 := by
                  have := k4.length
                  rw [← Array.length_toList]; exact this.symm
                refine ⟨L.blk, L.off + 0, M.blk, rfl, ?_, ⟨fs, clock, k3, ⟨by rw [hlen]; decide, k5 ?_, k6⟩, by omega, by rw [k7]; rfl⟩, φ', R2, G1.trans G2⟩
                · simp only [World.cell?, hx1]
                  exact k1
                · intro p hp
                  have hp : p ∈ [((N 0), (N 1)), ((N 5), (N 4)), ((N 8), (N 8)), ((N 9), (N 12)), ((N 3), (N 45))] := hp
                  simp only [List.mem_cons, List.not_mem_nil, or_false] at hp
                  rcases hp with rfl | rfl | rfl | rfl | rfl <;> rfl))
      refine hw.mono ?_
      rintro r w' ⟨w2, g, off, cap, cur, lo, hi, ⟨φ', R2, G2⟩, rfl, hg, hblk, hfr, ⟨hc1, hc2⟩, hcv, hbw⟩
      obtain ⟨R3, G3, hM⟩ := R2.make_at D (o := Ev.big 3 marksL) (x := .cells cur 3 (lo, hi)) (L := ⟨g, off, cur.size⟩) (w' := w') rfl rfl
        (bigR rfl (by show off + 10 ≤ cur.size; omega) (fun j u hj hu' => by
          have hj : j < 10 := hj
          have hj2 := listT (by exact hj) hu'
          rw [marksL_at j hj] at hj2
          cases hj2
          exact ⟨_, hcv j hj, .int _ _⟩) (fun _ => hfr)) hg hblk hbw
      refine ⟨_, _, rfl, .tup _ _ (.cons _ _ _ _ ?_ (.cons _ _ _ _ (.int _ _) .nil)), R3, G2.trans G3⟩
      rw [nextOf_eq]
      exact .sl _ 0 10 1 cap ⟨g, off, cur.size⟩ hM hc1 (by show off + 0 + cap * 1 ≤ cur.size; omega)
end Go.Ev
