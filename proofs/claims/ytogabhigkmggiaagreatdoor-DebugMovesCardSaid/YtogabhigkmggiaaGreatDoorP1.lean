import Derived.Test.YtogabhigkmggiaaGreatDoorW4
import Derived.Deep.SlicePairs
import Derived.ProofKit
set_option linter.unusedVariables false
set_option linter.unusedSimpArgs false
set_option linter.unusedSectionVars false
namespace Go.Proofs.YtogabhigkmggiaaGreatDoor
open Go.RowKit Go.Deep

theorem slice_val {H : Type} {enc : TypeId × Value → H} {w : World} {base : Nat} {spare : Nat → Bool} {held : Bool} {n : Nat} {t : TypeId} {v : Value} {e : TypeId} {x : DataW H × List MemPlace} (ht : Tryz.prog.underlying t = some (.slice e))
    (h : DataW.trod enc Tryz.prog w base spare held n t [v] = some x) : ∃ p l c, v = .slice p l c := by
  rcases DataW.trod_slice ht h with ⟨h0, _⟩ | ⟨a, len, cap, _, _, _, _, h0, _⟩
  · cases h0; exact ⟨_, _, _, rfl⟩
  · cases h0; exact ⟨_, _, _, rfl⟩
theorem add_none (b off k : Nat) : (⟨b, off, none⟩ : Addr).add k = ⟨b, off + k, none⟩ := by
  simp only [Addr.add]
  split <;> simp_all
def lenOf : Value → Nat
  | .slice _ n _ => n
  | _ => 0
def numOf : Value → Int
  | .int _ n => n
  | _ => 0
set_option maxRecDepth 100000 in
theorem moms_of {H : Type} {enc : TypeId × Value → H} {w : World} {base : Nat} {spare : Nat → Bool} {held : Bool} {fuel : Nat} {v : Value} {x : DataW H × List MemPlace}
    (h : DataW.trod enc Tryz.prog w base spare held fuel 22 [v] = some x) :
    ∃ p b off n cap st ln, v = .slice p n cap ∧ (0 < n → p = some ⟨b, off, none⟩) ∧ Moms w b off n st ln ∧ n ≤ maxLen := by
  rcases open_slice Tryz.underlying22 h with ⟨h0, _⟩ | ⟨a, len, cap, m, n, D, Pl, h0, hb, hl, hm, hmm, _, hx⟩
  · cases h0
    exact ⟨none, 0, 0, 0, 0, fun _ => 0, fun _ => 0, rfl, fun h => absurd h (by omega), ⟨fun i h => by omega, fun i h => by omega, fun i h => by omega, fun i h => by omega⟩, by decide⟩
  · cases h0
    have c35 : Tryz.prog.cellsOf 35 = 4 := by kernel_rfl
    have c3 : Tryz.prog.cellsOf 3 = 1 := by kernel_rfl
    have c9 : Tryz.prog.cellsOf 9 = 1 := by kernel_rfl
    have c33 : Tryz.prog.cellsOf 33 = 1 := by kernel_rfl
    have hlm : len ≤ m := by rw [hmm]; split <;> omega
    have each : ∀ i, i < m → ∃ (s y : Int) (t : ByteArray) (p : Option Addr) (l c : Nat), w.cell? (a.add (i * 4)) = some (.int .i64 s) ∧ w.cell? (a.add (i * 4 + 1)) = some (.int .i64 y) ∧ w.cell? (a.add (i * 4 + 2)) = some (.string t) ∧ w.cell? (a.add (i * 4 + 3)) = some (.slice p l c) := by
      intro i hi
      obtain ⟨cs', h1, h2⟩ := hx i hi
      rw [c35] at h1
      obtain ⟨_, hlen, hcell⟩ := World.cells?_some h1
      obtain ⟨xs, k, hk, hxy, _, hxl, hf⟩ := DataW.trod_struct Tryz.underlying35 h2
      match xs, hxl, cs', hlen with
      | [y0, y1, y2, y3], _, [v0, v1, v2, v3], _ =>
        have g0 := hf 0 _ rfl
        have g1 := hf 1 _ rfl
        have g2 := hf 2 _ rfl
        have g3 := hf 3 _ rfl
        simp [c3, c9, c33] at g0 g1 g2 g3
        have e0 := hcell 0 (by omega)
        have e1 := hcell 1 (by omega)
        have e2 := hcell 2 (by omega)
        have e3 := hcell 3 (by omega)
        rw [add_add] at e0 e1 e2 e3
        obtain ⟨s, hs, _⟩ := DataW.trod_int Tryz.underlying3 g0
        obtain ⟨y, hy, _⟩ := DataW.trod_int Tryz.underlying3 g1
        obtain ⟨t, ht, _⟩ := DataW.trod_string Tryz.underlying9 g2
        obtain ⟨p, l, c, hc⟩ := slice_val Tryz.underlying33 g3
        cases hs; cases hy; cases ht; subst hc
        exact ⟨s, y, t, p, l, c, by simpa using e0, by simpa using e1, by simpa using e2, by simpa using e3⟩
    obtain ⟨b, off, spot⟩ := a
    have hsp : 0 < len → spot = none := fun h0 => by
      obtain ⟨_, _, _, _, _, _, g, _⟩ := each 0 (by omega)
      simpa [Addr.add] using World.cell?_spot g
    refine ⟨some ⟨b, off, spot⟩, b, off, len, cap, fun i => numOf ((w.cell? ⟨b, off + i * 4, none⟩).getD undef), fun i => lenOf ((w.cell? ⟨b, off + i * 4 + 3, none⟩).getD undef), rfl, fun h0 => by rw [hsp h0], ?_, Nat.le_trans hl hm⟩
    have each2 : ∀ i, i < len → ∃ (s y : Int) (t : ByteArray) (p : Option Addr) (l c : Nat), w.cell? ⟨b, off + i * 4, none⟩ = some (.int .i64 s) ∧ w.cell? ⟨b, off + i * 4 + 1, none⟩ = some (.int .i64 y) ∧ w.cell? ⟨b, off + i * 4 + 2, none⟩ = some (.string t) ∧ w.cell? ⟨b, off + i * 4 + 3, none⟩ = some (.slice p l c) := by
      intro i hi
      have hs := hsp (by omega)
      subst hs
      obtain ⟨s, y, t, p, l, c, g0, g1, g2, g3⟩ := each i (by omega)
      rw [add_none] at g0 g1 g2 g3
      exact ⟨s, y, t, p, l, c, g0, g1, g2, g3⟩
    exact ⟨fun i hi => by obtain ⟨s, y, t, p, l, c, g0, _⟩ := each2 i hi; rw [g0]; rfl, fun i hi => by obtain ⟨s, y, t, p, l, c, _, g1, _⟩ := each2 i hi; exact ⟨y, g1⟩,
      fun i hi => by obtain ⟨s, y, t, p, l, c, _, _, g2, _⟩ := each2 i hi; exact ⟨t, g2⟩, fun i hi => by obtain ⟨s, y, t, p, l, c, _, _, _, g3⟩ := each2 i hi; exact ⟨p, c, by rw [g3]; rfl⟩⟩
end Go.Proofs.YtogabhigkmggiaaGreatDoor
