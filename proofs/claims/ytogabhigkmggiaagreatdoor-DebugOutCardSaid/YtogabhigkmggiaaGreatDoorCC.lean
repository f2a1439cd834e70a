import Derived.Test.YtogabhigkmggiaaGreatDoorTab
import Derived.WalkKit
import Derived.Lib.Builder
import Derived.Laws.Externs
set_option linter.unusedVariables false
namespace Go.Ev
open Go.Proofs Go.RowKit

set_option maxHeartbeats 1000000 in
set_option maxRecDepth 100000 in
theorem cc_fresh (b o c : Nat) (e : TypeId) (w : World) (h0 : w.cell? ⟨b, o, none⟩ = some (.pointer none)) (hsh : w.shape? b = some (e, c)) (hoff : o < c) (hfz : w.frozen? ⟨b, o, none⟩ = false) (hl : liesAt Tryz.prog Tryz.prog.depth e (c / Tryz.prog.cellsOf e) o 109 1 = true) :
    Calls Tryz.prog 156 #[.pointer (some ⟨b, o, none⟩)] w fun r w' => r = .returned (.tuple #[]) ∧ w' = w.setCell ⟨b, o, none⟩ (.pointer (some ⟨b, o, none⟩)) := by
  go_enter Tryz.func156, Tryz.ntmps156
  go_wp2
  rw [Lib.run_to_unsafe w ⟨b, o, none⟩ (t := 109) (j := Tryz.t109) Tryz.underlying106 Tryz.underlying411 Tryz.type109 (by decide) hsh hoff]
  simp only [Result.andThen]
  rw [Oper.upon_value]
  go_wp2
  rw [run_callFunc_extern Tryz.func243 (by kernel_rfl) (by kernel_rfl) (by kernel_rfl) (e := Extern.AbiNoEscape.same) (by kernel_rfl)]
  rw [Lib.run_noEscape]
  simp only [Result.andThen]
  rw [Oper.upon_value]
  go_wp2
  rw [Lib.run_from_unsafe w ⟨b, o, none⟩ (u := 109) (j := Tryz.t109) Tryz.underlying411 Tryz.underlying106 Tryz.type109 hsh hl]
  simp only [Result.andThen]
  rw [Oper.upon_value]
  go_wp2
  go_end0
  exact ⟨rfl, rfl⟩

set_option maxHeartbeats 1000000 in
set_option maxRecDepth 100000 in
theorem cc_used (b o : Nat) (w : World) (h0 : w.cell? ⟨b, o, none⟩ = some (.pointer (some ⟨b, o, none⟩))) :
    Calls Tryz.prog 156 #[.pointer (some ⟨b, o, none⟩)] w fun r w' => r = .returned (.tuple #[]) ∧ w' = w := by
  go_enter Tryz.func156, Tryz.ntmps156
  go_wp2
  rw [Lib.run_neq_ptr_same (te := 109) w _ Tryz.underlying106 Tryz.type109]
  go_wp2
  go_end0
  exact ⟨rfl, rfl⟩

/-- what is known of copyCheck -/
noncomputable def extCC : Ext := fun xs h => match xs with
  | [.ptr b o] => ob (hget h b) fun x => match x with
    | .small e l => ob (nth l o) fun v => match v with
      | .nilp => gd (liesAt Tryz.prog Tryz.prog.depth e (Nat.div (Ev.len l) (Tryz.prog.cellsOf e)) o 109 1) (ob (store h b o [.ptr b o]) fun h => some (.tup [], h))
      | .ptr c p => bi (peq b c) (gd (Nat.beq o p) (some (.tup [], h))) none
      | _ => none
    | _ => none
  | _ => none

theorem contract_cc (h0 : AHeap) (w0 : World) : Contract Tryz.prog 156 extCC h0 w0 := by
  intro D φ h w xs ys v h' he hx R Fr hD
  have hargs : ∃ b o, xs = [.ptr b o] := by
    unfold extCC at he
    split at he
    · exact ⟨_, _, rfl⟩
    · cases he
  obtain ⟨b, o, rfl⟩ := hargs
  have hys : ∃ L, φ b = some L ∧ ys = #[.pointer (some ⟨L.blk, L.off + o, none⟩)] := by
    generalize hl : ys.toList = l at hx
    cases hx with
    | cons _ u _ us h1 h2 =>
      cases h2
      cases h1 with
      | ptr _ _ L hL => exact ⟨L, hL, Array.toList_inj.mp (by rw [hl])⟩
  obtain ⟨L, hL, rfl⟩ := hys
  obtain ⟨x, hb, he⟩ := ob_inv (o := hget h b) he
  cases x with
  | small e l =>
    obtain ⟨u, hu, he⟩ := ob_inv (o := nth l o) he
    have hb' : h.t.get b = some (.small e l) := by obtain ⟨t, n⟩ := h; exact hb
    obtain ⟨X, k1, k2⟩ := R.obj b _ L hb' hL
    cases k2 with
    | cells _ _ e' c lo hi heq C =>
      cases heq
      obtain ⟨rfl, rfl, hoff, hsz⟩ := C.calm rfl
      obtain ⟨u', g1, g2⟩ := C.cell o u hu
      have hcs : c.size = l.length := by rw [C.size]; exact hsz.symm
      have hcell : w.cell? ⟨L.blk, L.off + o, none⟩ = some u' := by rw [cell?_of k1]; exact g1
      cases u with
      | nilp =>
        obtain ⟨hlies, he⟩ := gd_inv (b := liesAt Tryz.prog Tryz.prog.depth e (Nat.div (Ev.len l) (Tryz.prog.cellsOf e)) o 109 1) he
        obtain ⟨h2, hst, he⟩ := ob_inv (o := store h b o [.ptr b o]) he
        cases he
        cases g2
        obtain ⟨w', s1, s2, s3⟩ := store_sound (P := Tryz.prog) R D hL (.cons _ _ _ _ (.ptr b o L hL) .nil) hst
        have hfr : w.frozen? ⟨L.blk, L.off + o, none⟩ = false := by
          simp only [World.frozen?, k1]; simp
        have hw' : w' = w.setCell ⟨L.blk, L.off + o, none⟩ (.pointer (some ⟨L.blk, L.off + o, none⟩)) := by
          have hone : (Value.pointer (some ⟨L.blk, L.off + o, none⟩)).oneCell' = true := rfl
          simp only [storeCells, Sem.run_bind, addr_add, Nat.add_zero, run_store _ _ _ _ _ hone, hcell, hfr, Bool.false_eq_true, if_false, Result.andThen_ok] at s1
          cases s1; rfl
        have hsh : w.shape? L.blk = some (e, c.size) := by simp [World.shape?, k1]
        have hlt : L.off + o < c.size := (Array.getElem?_eq_some_iff.mp g1).1
        refine (cc_fresh L.blk (L.off + o) c.size e w hcell hsh hlt hfr ?_).mono ?_
        · rw [hoff, Nat.zero_add, hcs, ← len_eq]; exact hlies
        · rintro r w2 ⟨rfl, rfl⟩
          exact ⟨_, φ, rfl, .tup [] #[] .nil, hw' ▸ s2, hw' ▸ s3⟩
      | ptr c2 p =>
        cases hp : peq b c2 with
        | false =>
          have he : bi (peq b c2) (gd (Nat.beq o p) (some (AV.tup [], h))) none = some (v, h') := he
          rw [hp] at he; cases he
        | true =>
          have he : bi (peq b c2) (gd (Nat.beq o p) (some (AV.tup [], h))) none = some (v, h') := he
          rw [hp] at he
          obtain ⟨ho, he⟩ := gd_inv (b := Nat.beq o p) he
          cases he
          have hc2 : b = c2 := (peq_iff _ _).mp hp
          subst hc2
          have ho : o = p := Nat.eq_of_beq_eq_true ho
          subst ho
          cases g2 with
          | ptr _ _ L' hL' =>
            rw [hL] at hL'; cases hL'
            refine (cc_used L.blk (L.off + o) w hcell).mono ?_
            rintro r w2 ⟨rfl, rfl⟩
            exact ⟨_, φ, rfl, .tup [] #[] .nil, R, Grows.refl D φ h _⟩
      | _ => cases he
  | _ => cases he
end Go.Ev
