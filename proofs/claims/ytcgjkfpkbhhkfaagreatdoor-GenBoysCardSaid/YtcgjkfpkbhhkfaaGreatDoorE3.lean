import Derived.Test.YtcgjkfpkbhhkfaaGreatDoorE2
import Derived.Orders
import Derived.Calls
set_option linter.unusedVariables false
set_option linter.unusedSimpArgs false
set_option linter.unusedSectionVars false
set_option autoImplicit true
set_option relaxedAutoImplicit true
/-
  A small machine over closed data, thirty-one: appending in place, and in a block that the model makes.
-/
namespace Go.Ev

section
variable {P : Program} {φ : Map} {h : AHeap} {w w' : World}
variable {L : Loc} {n : Nat} {c : Pos} {g : Option Pos} {tA : T AObj} {nA : Pos}

theorem Grown.grows (G : Grown P φ h w L n c g tA nA) (D : Pos → Prop) {y : AObj} {M : Loc} (hs : w.heap.size ≤ w'.heap.size) (h1 : w'.os = w.os) (h2 : w'.tape = w.tape) (h3 : w'.output = w.output)
    (hk : ∀ β, β < w.heap.size → (∀ b N, φ b = some N → N.blk ≠ β) → w'.heap[β]? = w.heap[β]?) (hf : M.blk < w.heap.size → ∃ d N, φ d = some N ∧ N.blk = M.blk) : Grows D φ (φ.put c M) h ⟨tA.set y c, nA⟩ w w' where
  le := φ.le_put c M G.none
  size := hs
  os := h1
  tape := h2
  output := h3
  keep := hk
  fresh := fun b N hb hn hlt => by
    by_cases he : c = b
    · subst he; rw [φ.put_same] at hb; cases hb; exact hf hlt
    · rw [φ.put_other M he, hn] at hb; cases hb
  pend := fun b o _ hb hg hi hn => by
    have := G.pend b o hb hg hi hn
    have hne : c ≠ b := by rintro rfl; rw [G.free] at this; cases this
    refine ⟨by rw [φ.put_other M hne]; exact hn, ?_⟩
    rw [T.get_set, if_neg hne]; exact this
  next := G.next

theorem Grown.fresh (G : Grown P φ h w L n c g tA nA) (D : Pos → Prop) {y : AObj} {x : Obj} {csz : Nat} (hg : grpOf y = g) (hi : isGrp y = false) (hy : ObjR P (φ.put c ⟨w.heap.size, 0, csz⟩) y ⟨w.heap.size, 0, csz⟩ x)
    (hw : w'.heap = w.heap.push x) (h1 : w'.os = w.os) (h2 : w'.tape = w.tape) (h3 : w'.output = w.output) :
    Rep P (φ.put c ⟨w.heap.size, 0, csz⟩) ⟨tA.set y c, nA⟩ w' ∧ Grows D φ (φ.put c ⟨w.heap.size, 0, csz⟩) h ⟨tA.set y c, nA⟩ w w' := by
  have hk : ∀ β, β < w.heap.size → w'.heap[β]? = w.heap[β]? := fun β hβ => by rw [hw, getElem_push_lt _ _ _ hβ]
  refine ⟨?_, G.grows D (by rw [hw]; simp) h1 h2 h3 (fun β hβ _ => hk β hβ) (fun hlt => absurd hlt (Nat.lt_irrefl _))⟩
  exact G.rep.add G.free G.none G.lt hi (fun g' hg' => G.mem g' (by rw [← hg]; exact hg')) (fun g' l h4 h5 => by rw [hg]; exact G.own g' l h4 h5) hy (by rw [hw]; simp) (by rw [hw]; simp) (by rw [hw]; simp)
    (fun β hβ _ => hk β hβ) (fun d z N hd hN hb => by
      have h4 := (G.rep.dom d N hN).2
      have h5 : N.blk = w.heap.size := hb
      omega)

theorem Grown.inplace (G : Grown P φ h w L n c g tA nA) (D : Pos → Prop) {y : AObj} {e : TypeId} {b : Pos} {cs cs' : Array Value} {lo hi off : Nat} (hL : φ b = some L) (hb : w.heap[L.blk]? = some (.cells cs e (lo, hi))) (hsz : cs'.size = cs.size)
    (heq : ∀ i, i < L.off + n → cs'[i]? = cs[i]?) (hoff : g = Option.none ∨ off = L.off) (hg : grpOf y = g) (hi' : isGrp y = false) (hy : ObjR P (φ.put c ⟨L.blk, off, L.csz⟩) y ⟨L.blk, off, L.csz⟩ (.cells cs' e (lo, hi)))
    (hw : w'.heap = w.heap.setIfInBounds L.blk (.cells cs' e (lo, hi))) (h1 : w'.os = w.os) (h2 : w'.tape = w.tape) (h3 : w'.output = w.output) :
    Rep P (φ.put c ⟨L.blk, off, L.csz⟩) ⟨tA.set y c, nA⟩ w' ∧ Grows D φ (φ.put c ⟨L.blk, off, L.csz⟩) h ⟨tA.set y c, nA⟩ w w' := by
  have hlt : L.blk < w.heap.size := (Array.getElem?_eq_some_iff.mp hb).1
  have hk : ∀ β, β ≠ L.blk → w'.heap[β]? = w.heap[β]? := fun β hβ => by rw [hw, Array.getElem?_setIfInBounds_ne (Ne.symm hβ)]
  have hs : w'.heap.size = w.heap.size := by rw [hw]; simp
  refine ⟨?_, G.grows D (by omega) h1 h2 h3 (fun β _ hno => hk β (fun he => hno b L hL he.symm)) (fun _ => ⟨b, L, hL, rfl⟩)⟩
  refine G.rep.add G.free G.none G.lt hi' (fun g' hg' => G.mem g' (by rw [← hg]; exact hg')) (fun g' l h4 h5 => by rw [hg]; exact G.own g' l h4 h5) hy (by show L.blk < _; omega) (by omega)
    (by rw [hw, Array.getElem?_setIfInBounds_self_of_lt hlt]) (fun β _ hne => hk β hne) ?_
  intro d z N hd hN hblk
  obtain ⟨h4, ⟨g', h5, h6⟩, h7⟩ := G.mates d z N hd hN hblk
  have hoff : off = L.off := by
    rcases hoff with h8 | h8
    · rw [h8] at h6; cases h6
    · exact h8
  refine ⟨by show N.off = off; omega, ⟨g', h5, by rw [hg]; exact h6⟩, ?_⟩
  obtain ⟨u, h8, h9⟩ := G.rep.obj d z N hd hN
  have hblk : N.blk = L.blk := hblk
  rw [hblk, hb] at h8
  cases h8
  cases h9 with
  | cells _ _ _ _ _ _ he C =>
    refine .cells z N e cs' lo hi he ⟨by rw [hsz]; exact C.size, C.fits, fun i v hv => ?_, C.calm, C.warm⟩
    obtain ⟨p, k1, k2⟩ := C.cell i v hv
    have := cell_lt hv
    exact ⟨p, by rw [heq _ (by omega)]; exact k1, k2⟩
end

end Go.Ev
/-
  A small machine over closed data, thirty-two: append.
-/
namespace Go.Ev

section
variable {P : Program} {φ : Map} {h : AHeap} {w w' : World}

theorem src_zero {v : AV} {x : Value} (hx : VR φ v x) {n : Nat} {vs : List AV} (hs : src v h n 0 = some vs) : vs = [] := by
  have hl : vs.length = 0 := by
    cases hx with
    | nils => cases hs; rfl
    | str s bs hb => have hs : some ([] : List AV) = some vs := hs; cases hs; rfl
    | sl b2 o2 k2 z2 cap2 L2 hL2 _ _ =>
      obtain ⟨y2, _, h9⟩ := ob_inv (o := hget h b2) hs
      rw [(cellsN_spec h9).1]; exact Nat.zero_mul n
    | sl0 b2 o2 z2 L2 a2 hL2 =>
      obtain ⟨y2, _, h9⟩ := ob_inv (o := hget h b2) hs
      rw [(cellsN_spec h9).1]; exact Nat.zero_mul n
    | _ => cases hs
  exact List.eq_nil_of_length_eq_zero hl

theorem load_all {w : World} {β o N : Nat} {cs : Array Value} {e : TypeId} {fz : Nat × Nat} (hb : w.heap[β]? = some (.cells cs e fz)) (hN : o + N ≤ cs.size) : (loadCells ⟨β, o, none⟩ N).run P w = .ok (cs.extract o (o + N)) w := by
  have := run_loadCellsFrom (P := P) (w := w) (β := β) (o := o) N 0 #[] ((cs.toList.drop o).take N) (by simp; omega) (fun j hj => by
    rw [cell?_of hb, Nat.zero_add, List.getElem?_take_of_lt hj, List.getElem?_drop, Array.getElem?_toList])
  rw [show loadCells ⟨β, o, none⟩ N = loadCellsFrom ⟨β, o, none⟩ 0 N #[] from rfl, this]
  congr 1
  apply Array.toList_inj.mp
  simp [List.extract_eq_take_drop]

/-- what a row is that goes on from the first cells of another one -/
structure Longer (φ : Map) (x y : AObj) (e : TypeId) (o N : Nat) (vs : List AV) (g : Option Pos) : Prop where
  grp : grpOf y = g
  plain : isGrp y = false
  elem : elemOf y = some e
  small : isSmall y = false
  size : sizeOf y = N + vs.length
  here : g = none ∨ o = 0
  fz : fzOf x ≤ o + fzOf y
  cell : ∀ i v, cell y i = some v → if i < N then cell x (o + i) = some v else vs[i - N]? = some v
theorem grow_shape (R : Rep P φ h w) {e : TypeId} {b c : Pos} {x : AObj} {o N : Nat} {vs : List AV} {h' : AHeap} {L : Loc} (hb : h.t.get b = some x) (hL : φ b = some L) (he : grow h e b x o N vs = some (c, h')) :
    elemOf x = some e ∧ fzOf x ≤ o + N ∧ fzOf x ≤ sizeOf x ∧ ∃ y g tA nA, h' = ⟨tA.set y c, nA⟩ ∧ Grown P φ h w L N c g tA nA ∧ Longer φ x y e o N vs g := by
  have S : growS h e b x o N vs = some (c, h') → elemOf x = some e ∧ fzOf x ≤ o + N ∧ fzOf x ≤ sizeOf x ∧ ∃ y g tA nA, h' = ⟨tA.set y c, nA⟩ ∧ Grown P φ h w L N c g tA nA ∧ Longer φ x y e o N vs g := by
    intro he
    obtain ⟨h1, h2, l, tA, nA, h3, h4, h5⟩ := growS_shape R hb hL he
    obtain ⟨h6, h7⟩ := cellsN_spec h3
    refine ⟨h1, h2, ?_, _, none, tA, nA, h4, h5, ⟨rfl, rfl, rfl, rfl, ?_, .inl rfl, ?_, ?_⟩⟩
    · cases x with
      | small e l => exact Nat.zero_le _
      | big e2 fz m z u g =>
        obtain ⟨h8, _⟩ := gd_inv (b := Nat.ble (Nat.add o N) m) h3
        exact Nat.le_trans h2 (Nat.ble_eq.mp h8)
      | _ => cases h1
    · show len (l ++ vs) = N + vs.length
      rw [len_eq, List.length_append, h6]
    · show fzOf x ≤ o + (fzOf x - o); omega
    · intro i v hv
      obtain ⟨h8, h9⟩ := gd_inv (b := Nat.ble (Nat.succ i) (len (l ++ vs))) hv
      have h8 : i + 1 ≤ len (l ++ vs) := Nat.ble_eq.mp h8
      rw [len_eq] at h8
      have h10 := listT (by omega) h9
      split
      · rename_i hi
        rw [h7 i hi]
        rw [List.getElem?_append_left (by omega)] at h10; exact h10
      · rename_i hi
        rw [List.getElem?_append_right (by omega), h6] at h10; exact h10
  have he1 : bi (isBig x) (bi (Nat.beq o 0) (growB x h e b N vs) (growS h e b x o N vs)) (growS h e b x o N vs) = some (c, h') := he
  cases x with
  | big e2 fz m z u g =>
    by_cases ho : o = 0
    · subst ho
      have he2 : growB (.big e2 fz m z u g) h e b N vs = some (c, h') := he1
      obtain ⟨rfl, h2, h3, g', tA, nA, h4, h5⟩ := growB_shape R hb hL he2
      refine ⟨rfl, by show fz ≤ 0 + N; omega, by show fz ≤ m; omega, _, g', tA, nA, h4, h5, ⟨rfl, rfl, rfl, rfl, ?_, .inr rfl, ?_, ?_⟩⟩
      · show N + len vs = _; rw [len_eq]
      · show fz ≤ 0 + fz; omega
      · intro i v hv
        obtain ⟨h8, h9⟩ := gd_inv (b := Nat.ble (Nat.succ i) (N + len vs)) hv
        have h8 : i + 1 ≤ N + len vs := Nat.ble_eq.mp h8
        rw [len_eq] at h8
        rw [tset_get] at h9
        split
        · rename_i hi
          rw [if_neg (by omega)] at h9
          show gd (Nat.ble (Nat.succ (0 + i)) m) _ = some v
          rw [Nat.zero_add, show Nat.ble (Nat.succ i) m = true from Nat.ble_eq.mpr (by show i + 1 ≤ m; omega)]
          exact h9
        · rename_i hi
          rw [if_pos (by omega), List.getElem?_eq_getElem (by omega)] at h9
          rw [List.getElem?_eq_getElem (by omega)]; exact h9
    · refine S ?_
      have he2 : bi (Nat.beq o 0) (growB (.big e2 fz m z u g) h e b N vs) (growS h e b (.big e2 fz m z u g) o N vs) = some (c, h') := he1
      rw [show Nat.beq o 0 = false by rw [← Bool.not_eq_true, Nat.beq_eq]; exact ho, bi_false] at he2
      exact he2
  | _ => exact S he1
end

end Go.Ev
/-
  A small machine over closed data, thirty-three: append, as the machine does it.
-/
namespace Go.Ev

section
variable {P : Program} {φ : Map} {h : AHeap} {w w' : World}

theorem zeroCells_size (z : Array Value) (n : Nat) : (Builtin.zeroCells z n).size = n * z.size := by simp [Builtin.zeroCells]
theorem run_zeroValue {e : TypeId} {i : TypeInfo} {v : Value} (hi : P.info? e = some i) (hv : i.zero = some v) : (zeroValue e).run P w = .ok v w := by
  simp [zeroValue, typeInfo, hi, hv]

theorem onSl_append {s : AV} {β : Type} {f : Pos → Nat → Nat → Nat → Option β} {d : Option β} {r : β} (he : onSl s f d = some r) : (∃ b o k z, s = .sl b o k z ∧ f b o k z = some r) ∨ d = some r := by
  cases s with
  | sl b o k z => exact .inl ⟨b, o, k, z, rfl, he⟩
  | _ => exact .inr he

/-- further elements, in a block that the model makes -/
theorem app_new (R : Rep P φ h w) (D : Pos → Prop) {ts tx ty e : TypeId} {n m k cap bytes o : Nat} {c : Pos} {z : AV} {x y : AObj} {vs : List AV} {base : Option Addr} {v : Value} {us cs os : Array Value} {L : Loc} {lo hi : Nat} {g : Option Pos} {tA : T AObj} {pA : Pos}
    (hu : P.underlying ts = some (.slice e)) (ht : Src P tx) (hn : szT P e = some n) (hb : bytesT P e = some bytes) (hz : zeroT P e = some z) (hzn : len (cells z) = n)
    (hl : (Builtin.lenOf v).run P w = .ok m w) (hf : (Builtin.firstCells n m v).run P { w with drawn := w.drawn + 1 } = .ok us { w with drawn := w.drawn + 1 }) (hus : VRs φ vs us.toList) (hvs : vs.length = m * n)
    (hC : CellsR φ x L cs lo hi) (ho : (Builtin.firstCells n k (.slice base k cap)).run P { w with drawn := w.drawn + 1 } = .ok os { w with drawn := w.drawn + 1 })
    (hos : os.size = k * n) (hoc : ∀ j, j < k * n → os[j]? = cs[L.off + (o + j)]?) (hle : cap < k + m) (hr : (k + m) * (bytes + 1) ≤ room) (G : Grown P φ h w L (k * n) c g tA pA) (Q : Longer φ x y e o (k * n) vs g) :
    Does P D φ h w (Builtin.append_ #[ts, tx] ty #[.slice base k cap, v]) ⟨tA.set y c, pA⟩ (.sl c 0 (k + m) n) := by
  obtain ⟨i, zv, hi', hv, hzr⟩ := zero_cells (φ := φ) hz
  have hzs : zv.cells.size = n := by rw [← hzn, len_eq, hzr.length]; simp
  obtain ⟨cap', dr, h1, h2⟩ := run_append_new (w := w) (ty := ty) hu ht hn hb hl (run_zeroValue hi' hv) hf ho hle hr
  generalize hcs' : os ++ us ++ Builtin.zeroCells zv.cells (cap' - (k + m)) = cs' at h2
  have hus' : us.size = m * n := by rw [← hvs, hus.length]; simp
  have hsz : cs'.size = cap' * n := by
    rw [← hcs', Array.size_append, Array.size_append, zeroCells_size, hzs, hus', hos]
    rw [← Nat.add_mul, ← Nat.add_mul]
    congr 1; omega
  have hkm : (k + m) * n ≤ cap' * n := Nat.mul_le_mul_right n h1
  have hkm2 : (k + m) * n = k * n + m * n := Nat.add_mul k m n
  have hle' := φ.le_put c ⟨w.heap.size, 0, cs'.size⟩ G.none
  have hy : ObjR P (φ.put c ⟨w.heap.size, 0, cs'.size⟩) y ⟨w.heap.size, 0, cs'.size⟩ (.cells cs' e (0, 0)) := by
    refine .cells y _ e cs' 0 0 Q.elem ⟨rfl, ?_, fun j u hj => ?_, fun hs => (by rw [Q.small] at hs; cases hs), fun _ => .inl rfl⟩
    · show 0 + sizeOf y ≤ cs'.size
      rw [Q.size, hvs, hsz]; omega
    · have hlt := cell_lt hj
      rw [Q.size, hvs] at hlt
      have := Q.cell j u hj
      simp only [Nat.zero_add]
      split at this
      · rename_i hjk
        obtain ⟨p, g1, g2⟩ := hC.cell _ _ this
        refine ⟨p, ?_, g2.mono hle'⟩
        rw [← hcs', Array.getElem?_append_left (by rw [Array.size_append, hos]; omega), Array.getElem?_append_left (by rw [hos]; omega), hoc j hjk]
        exact g1
      · rename_i hjk
        obtain ⟨p, g1, g2⟩ := hus.get _ this
        refine ⟨p, ?_, g2.mono hle'⟩
        rw [Array.getElem?_toList] at g1
        rw [← hcs', Array.getElem?_append_left (by rw [Array.size_append, hos, hus']; omega), Array.getElem?_append_right (by rw [hos]; omega), hos]
        exact g1
  obtain ⟨R1, G1⟩ := G.fresh D (y := y) (csz := cs'.size) (x := .cells cs' e (0, 0)) (w' := { w with drawn := dr, heap := w.heap.push (.cells cs' e (0, 0)) }) Q.grp Q.plain hy rfl rfl rfl rfl
  refine ⟨_, _, _, h2, ?_, R1, G1⟩
  exact .sl c 0 (k + m) n cap' _ (φ.put_same _ _) h1 (by show 0 + 0 + cap' * n ≤ cs'.size; omega)
/-- further elements, in the place behind the old ones -/
theorem app_in (R : Rep P φ h w) (D : Pos → Prop) {ts tx ty e : TypeId} {n m k cap o : Nat} {b c : Pos} {x y : AObj} {vs : List AV} {v : Value} {us cs : Array Value} {L : Loc} {lo hi : Nat} {g : Option Pos} {tA : T AObj} {pA : Pos}
    (hu : P.underlying ts = some (.slice e)) (ht : Src P tx) (hn : szT P e = some n)
    (hl : (Builtin.lenOf v).run P w = .ok m w) (hf : (Builtin.firstCells n m v).run P w = .ok us w) (hus : VRs φ vs us.toList) (hvs : vs.length = m * n) (hfl : flats vs = true)
    (hL : φ b = some L) (hbl : w.heap[L.blk]? = some (.cells cs e (lo, hi))) (hC : CellsR φ x L cs lo hi) (h3 : fzOf x ≤ o + k * n) (h4 : fzOf x ≤ sizeOf x)
    (hin : L.off + o + cap * n ≤ L.csz) (hle : k + m ≤ cap) (G : Grown P φ h w L (k * n) c g tA pA) (Q : Longer φ x y e o (k * n) vs g) :
    Does P D φ h w (Builtin.append_ #[ts, tx] ty #[.slice (some ⟨L.blk, L.off + o, none⟩) k cap, v]) ⟨tA.set y c, pA⟩ (.sl c 0 (k + m) n) := by
  have hkm : (k + m) * n ≤ cap * n := Nat.mul_le_mul_right n hle
  have hkm2 : (k + m) * n = k * n + m * n := Nat.add_mul k m n
  have hlus : us.toList.length = m * n := by rw [← hvs, hus.length]
  have hsz := hC.size
  obtain ⟨cs', g1, g2, g3⟩ := run_sto (P := P) (β := L.blk) (o := L.off + o + k * n) us.toList 0 cs w hbl (fun j hj => by
    rw [hlus] at hj
    refine ⟨by omega, ?_⟩
    have := hC.warm h4
    show ¬ (lo ≤ _ ∧ _ < hi)
    omega) (flats_one hus hfl)
  have hle' := φ.le_put c ⟨L.blk, L.off + o, L.csz⟩ G.none
  have hy : ObjR P (φ.put c ⟨L.blk, L.off + o, L.csz⟩) y ⟨L.blk, L.off + o, L.csz⟩ (.cells cs' e (lo, hi)) := by
    refine .cells y _ e cs' lo hi Q.elem ⟨by rw [g2]; exact hC.size, ?_, fun j u hj => ?_, fun hs => (by rw [Q.small] at hs; cases hs), fun _ => ?_⟩
    · show L.off + o + sizeOf y ≤ L.csz
      rw [Q.size, hvs]; omega
    · have hlt := cell_lt hj
      rw [Q.size, hvs] at hlt
      have := Q.cell j u hj
      show ∃ p, cs'[L.off + o + j]? = some p ∧ _
      rw [g3]
      split at this
      · obtain ⟨p, k1, k2⟩ := hC.cell _ _ this
        refine ⟨p, ?_, k2.mono hle'⟩
        rw [if_neg (by omega), show L.off + o + j = L.off + (o + j) by omega]
        exact k1
      · obtain ⟨p, k1, k2⟩ := hus.get _ this
        refine ⟨p, ?_, k2.mono hle'⟩
        rw [if_pos (by rw [hlus]; omega), show L.off + o + j - (L.off + o + k * n + 0) = j - k * n by omega]
        exact k1
    · have h5 := hC.warm h4
      have h6 := Q.fz
      show lo = hi ∨ hi ≤ L.off + o + fzOf y
      omega
  obtain ⟨R1, G1⟩ := G.inplace D (y := y) (cs' := cs') (off := L.off + o) (w' := { w with heap := w.heap.setIfInBounds L.blk (.cells cs' e (lo, hi)) }) hL hbl g2 (fun j hj => by rw [g3, if_neg (by omega)]) (by
    rcases Q.here with h5 | h5
    · exact .inl h5
    · exact .inr (by omega)) Q.grp Q.plain hy rfl rfl rfl rfl
  refine ⟨_, _, _, run_append_in (w := w) (w' := { w with heap := w.heap.setIfInBounds L.blk (.cells cs' e (lo, hi)) }) hu ht hn hl hf hle ?_, ?_, R1, G1⟩
  · show (storeCells (Addr.add ⟨L.blk, L.off + o, none⟩ (k * n)) us.toList).run P w = _
    rw [addr_add]; exact g1
  · exact .sl c 0 (k + m) n cap _ (φ.put_same _ _) hle (by show L.off + o + 0 + cap * n ≤ L.csz; omega)

theorem g_app (R : Rep P φ h w) (D : Pos → Prop) {ts tx ty e : TypeId} {n bytes : Nat} {z s v a : AV} {x y : Value} {h' : AHeap} (hu : P.underlying ts = some (.slice e)) (ht : Src P tx) (hn : szT P e = some n) (hb : bytesT P e = some bytes)
    (hz : zeroT P e = some z) (hzn : len (cells z) = n) (hx : VR φ s x) (hy : VR φ v y)
    (he : (ob (len? v) fun m => ob (src v h n m) fun vs => bi (Nat.beq m 0) (onSl s (fun _ _ _ _ => some (s, h)) (gd (isNils s) (some (s, h)))) (append h e n bytes s m vs)) = some (a, h')) :
    Does P D φ h w (Builtin.append_ #[ts, tx] ty #[x, y]) h' a := by
  obtain ⟨m, h1, he⟩ := ob_inv he
  obtain ⟨vs, h2, he⟩ := ob_inv he
  have hl := len?_sound (P := P) (w := w) hy h1
  obtain ⟨us, g1, g2⟩ := src_sound R hy (len?_sl h1) h2
  by_cases hm : m = 0
  · subst hm
    have hvs := src_zero hy h2
    subst hvs
    have hus : us.toList = [] := List.eq_nil_of_length_eq_zero g2.length.symm
    have he : onSl s (fun _ _ _ _ => some (s, h)) (gd (isNils s) (some (s, h))) = some (a, h') := he
    rcases onSl_append he with ⟨b, o, k, z', rfl, h4⟩ | h4
    · cases h4
      cases hx with
      | sl _ _ _ _ cap L hL hnc hc =>
        refine ⟨_, w, φ, run_append_in (w' := w) hu ht hn hl g1 (by show k + 0 ≤ cap; omega) ?_, .sl b o k z' cap L hL hnc hc, R, Grows.refl D φ h w⟩
        rw [hus]; rfl
      | sl0 _ _ _ L a0 hL =>
        refine ⟨_, w, φ, run_append_in (w' := w) hu ht hn hl g1 (Nat.le_refl 0) ?_, .sl0 b o z' L a0 hL, R, Grows.refl D φ h w⟩
        rw [hus]; rfl
    · obtain ⟨h5, h6⟩ := gd_inv h4
      cases h6
      cases isNils_eq h5
      cases hx
      exact ⟨_, w, φ, run_append_in (w' := w) hu ht hn hl g1 (Nat.le_refl 0) rfl, .nils, R, Grows.refl D φ h w⟩
  · rw [show Nat.beq m 0 = false by rw [← Bool.not_eq_true, Nat.beq_eq]; exact hm, bi_false] at he
    obtain ⟨h3, he⟩ := gd_inv he
    obtain ⟨hfl, he⟩ := gd_inv he
    have hvs : vs.length = m * n := by rw [← len_eq]; exact Nat.eq_of_beq_eq_true h3
    have hRd : Rep P φ h { w with drawn := w.drawn + 1 } := R.world rfl
    obtain ⟨us2, d1, d2⟩ := src_sound hRd hy (len?_sl h1) h2
    rcases onSl_append he with ⟨b, o, k, z', rfl, h4⟩ | h4
    · obtain ⟨h5, h4⟩ := gd_inv h4
      have h5 : z' = n := Nat.eq_of_beq_eq_true h5
      subst h5
      obtain ⟨h6, h4⟩ := gd_inv h4
      have h6 : (k + m) * (bytes + 1) ≤ room := Nat.ble_eq.mp h6
      obtain ⟨X, h7, h4⟩ := ob_inv h4
      obtain ⟨⟨c, h''⟩, h8, h4⟩ := ob_inv h4
      have h4 : some (AV.sl c 0 (k + m) z', h'') = some (a, h') := h4
      cases h4
      have hb' : h.t.get b = some X := by
        obtain ⟨t, nx⟩ := h; exact h7
      have hL' : ∃ L, φ b = some L := by
        cases hx with
        | sl _ _ _ _ cap L hL hnc hc => exact ⟨L, hL⟩
        | sl0 _ _ _ L a0 hL => exact ⟨L, hL⟩
      obtain ⟨L, hL⟩ := hL'
      obtain ⟨q1, q2, q3, Y, g, tA, nA, rfl, G, Q⟩ := grow_shape R hb' hL h8
      obtain ⟨O, o1, o2⟩ := R.obj b X L hb' hL
      cases o2 with
      | cells _ _ e' cs lo hi heq hC =>
        rw [q1] at heq; cases heq
        have hsz := hC.size
        cases hx with
        | sl _ _ _ _ cap L2 hL2 hnc hc =>
          rw [hL] at hL2; cases hL2
          by_cases hle : k + m ≤ cap
          · exact app_in R D hu ht hn hl g1 g2 hvs hfl hL o1 hC q2 q3 hc hle G Q
          · have hkc : k * z' ≤ cap * z' := Nat.mul_le_mul_right z' hnc
            have hin : L.off + o + k * z' ≤ cs.size := by omega
            refine app_new (o := o) R D hu ht hn hb hz hzn hl d1 d2 hvs hC (load_all (w := { w with drawn := w.drawn + 1 }) o1 hin) ?_ ?_ (by omega) h6 G Q
            · rw [Array.size_extract, Nat.min_eq_left hin]; omega
            · intro j hj
              rw [Array.getElem?_extract, if_pos (by rw [Nat.min_eq_left hin]; omega), show L.off + o + j = L.off + (o + j) by omega]
        | sl0 _ _ _ L2 a0 hL2 =>
          have ho : (Builtin.firstCells z' 0 (.slice (some a0) 0 0)).run P { w with drawn := w.drawn + 1 } = .ok (#[] : Array Value) { w with drawn := w.drawn + 1 } := by
            show (loadCells a0 (0 * z')).run P _ = _
            rw [Nat.zero_mul]; rfl
          exact app_new (o := o) R D hu ht hn hb hz hzn hl d1 d2 hvs hC ho (by rw [Nat.zero_mul]; rfl) (fun j hj => by rw [Nat.zero_mul] at hj; omega) (by omega) h6 G Q
      | map => cases q1
      | loop => cases q1
      | defd => cases q1
      | taken => cases q1
    · obtain ⟨h5, h4⟩ := gd_inv h4
      obtain ⟨h6, h4⟩ := gd_inv h4
      have h6 : m * (bytes + 1) ≤ room := Nat.ble_eq.mp h6
      cases h4
      cases isNils_eq h5
      cases hx
      obtain ⟨i, zv, hi', hv, hzr⟩ := zero_cells (φ := φ) hz
      have hzs : zv.cells.size = n := by rw [← hzn, len_eq, hzr.length]; simp
      obtain ⟨cap', dr, k1, k2⟩ := run_append_new (w := w) (ty := ty) (k := 0) (m := m) (cap := 0) (base := none) (os := #[]) hu ht hn hb hl (run_zeroValue hi' hv) d1 rfl (by omega) (by rw [Nat.zero_add]; exact h6)
      generalize hcs' : #[] ++ us2 ++ Builtin.zeroCells zv.cells (cap' - (0 + m)) = cs' at k2
      have hus' : us2.size = m * n := by rw [← hvs, d2.length]; simp
      have hkm : m * n ≤ cap' * n := Nat.mul_le_mul_right n (by omega)
      have hsz : cs'.size = cap' * n := by
        rw [← hcs', Array.size_append, Array.size_append, zeroCells_size, hzs, hus']
        show 0 + m * n + (cap' - (0 + m)) * n = _
        rw [Nat.zero_add, ← Nat.add_mul]
        congr 1; omega
      obtain ⟨R1, G1, hM⟩ := R.make D (o := Ev.big e vs) (x := .cells cs' e (0, 0)) (csz := cs'.size) (w' := { w with drawn := dr, heap := w.heap.push (.cells cs' e (0, 0)) }) rfl rfl
        (bigR rfl (by show 0 + len vs ≤ cs'.size; rw [len_eq, hvs, hsz]; omega) (fun j u hj hu' => by
          have hj : j < len vs := hj
          rw [len_eq] at hj
          have hj2 := listT hj hu'
          obtain ⟨p, r1, r2⟩ := d2.get _ hj2
          refine ⟨p, ?_, r2.mono (φ.le_put _ _ (rep_fresh R (Nat.le_refl _)).2)⟩
          rw [Array.getElem?_toList] at r1
          show cs'[0 + j]? = some p
          rw [← hcs', Nat.zero_add, Array.empty_append, Array.getElem?_append_left (by rw [hus']; omega)]
          rw [Nat.zero_add]; exact r1) (fun _ => .inl rfl)) rfl rfl rfl rfl
      refine ⟨_, _, _, k2, ?_, R1, G1⟩
      rw [nextOf_eq, Nat.zero_add]
      exact .sl _ 0 m n cap' _ hM (by omega) (by show 0 + 0 + cap' * n ≤ cs'.size; omega)

/-- a row takes the place of another one that says as much or more -/
theorem Rep.swap (R : Rep P φ h w) {b : Pos} {x y : AObj} (hb : h.t.get b = some x) (he : elemOf y = elemOf x) (hex : ∃ e, elemOf x = some e) (hg : grpOf x = none) (hg' : grpOf y = none) (hi : isGrp y = false) (hsm : isSmall y = false) (hz : sizeOf y = sizeOf x) (hf : fzOf y = fzOf x)
    (hc : ∀ i v, Ev.cell y i = some v → Ev.cell x i = some v) {t' : T AObj} (ht : ∀ c, t'.get c = if b = c then some y else h.t.get c) {next' : Pos} (hn : h.next.toNat ≤ next'.toNat) : Rep P φ ⟨t', next'⟩ w := by
  have hget : ∀ c z, t'.get c = some z → (c = b ∧ z = y) ∨ (c ≠ b ∧ h.t.get c = some z) := by
    intro c z hcz
    rw [ht] at hcz
    by_cases hbc : b = c
    · rw [if_pos hbc] at hcz; cases hcz; exact .inl ⟨hbc.symm, rfl⟩
    · rw [if_neg hbc] at hcz; exact .inr ⟨Ne.symm hbc, hcz⟩
  have hix : isGrp x = false := by
    obtain ⟨e, hex⟩ := hex
    cases x <;> first | rfl | cases hex
  refine ⟨?_, fun c L hL => ⟨Nat.lt_of_lt_of_le (R.dom c L hL).1 hn, (R.dom c L hL).2⟩, ?_, ?_, ?_, ?_, ?_⟩
  · intro c z hcz
    rcases hget c z hcz with ⟨rfl, rfl⟩ | ⟨_, h1⟩
    · exact Nat.lt_of_lt_of_le (R.low _ _ hb) hn
    · exact Nat.lt_of_lt_of_le (R.low _ _ h1) hn
  · intro c z L hcz hL
    rcases hget c z hcz with ⟨rfl, rfl⟩ | ⟨_, h1⟩
    · obtain ⟨o, k1, k2⟩ := R.obj _ _ L hb hL
      refine ⟨o, k1, ?_⟩
      cases k2 with
      | cells _ _ e' c' lo hi' he' hc' =>
        refine .cells _ _ e' c' lo hi' (by rw [he]; exact he') ⟨hc'.size, by rw [hz]; exact hc'.fits, fun i v hv => hc'.cell i v (hc i v hv), fun hs => (by rw [hsm] at hs; cases hs), fun hw => ?_⟩
        rw [hf]; rw [hf, hz] at hw; exact hc'.warm hw
      | _ => obtain ⟨e, hex⟩ := hex; cases hex
    · exact R.obj c z L h1 hL
  · intro c z hcz hgz
    rcases hget c z hcz with ⟨rfl, rfl⟩ | ⟨_, h1⟩
    · rw [hi] at hgz; cases hgz
    · exact R.grp c z h1 hgz
  · intro c d u z L M hc1 hd1 hL hM hLM
    have hx : ∀ c z, t'.get c = some z → ∃ z', h.t.get c = some z' ∧ grpOf z' = grpOf z := by
      intro c z hcz
      rcases hget c z hcz with ⟨rfl, rfl⟩ | ⟨_, h1⟩
      · exact ⟨x, hb, by rw [hg, hg']⟩
      · exact ⟨z, h1, rfl⟩
    obtain ⟨u', k1, k2⟩ := hx c u hc1
    obtain ⟨z', k3, k4⟩ := hx d z hd1
    rcases R.alone c d u' z' L M k1 k3 hL hM hLM with h1 | ⟨g, h1, h2, h3⟩
    · exact .inl h1
    · exact .inr ⟨g, by rw [← k2]; exact h1, by rw [← k4]; exact h2, h3⟩
  · intro g l c hgl hcl
    rcases hget g _ hgl with ⟨rfl, rfl⟩ | ⟨_, h1⟩
    · cases hi
    · obtain ⟨k1, k2⟩ := R.listed g l c h1 hcl
      refine ⟨Nat.lt_of_lt_of_le k1 hn, fun z hcz => ?_⟩
      rcases hget c z hcz with ⟨rfl, rfl⟩ | ⟨_, h2⟩
      · have := k2 x hb
        rw [hg] at this; cases this
      · exact k2 z h2
  · intro c z g hcz hgz
    rcases hget c z hcz with ⟨rfl, rfl⟩ | ⟨_, h1⟩
    · rw [hg'] at hgz; cases hgz
    · obtain ⟨l, k1, k2⟩ := R.member c z g h1 hgz
      refine ⟨l, ?_, k2⟩
      show t'.get g = _
      rw [ht, if_neg ?_]
      · exact k1
      · rintro rfl
        rw [hb] at k1; cases k1
        cases hix
theorem quickO_spec {y q : AObj} {e : TypeId} {k : Nat} (hq : quickO y e k = some q) : ∃ e2 fz z u g, y = .big e2 fz k z u g ∧ q = .big e 0 k z u none ∧ hasZ z = true ∧ flats z = true ∧ flatT u = true := by
  cases y with
  | big e2 fz n z u g =>
    obtain ⟨h1, h2⟩ := gd_inv (b := Nat.beq n k) hq
    obtain ⟨h3, h4⟩ := gd_inv h2
    obtain ⟨h5, h6⟩ := gd_inv h4
    obtain ⟨h7, h8⟩ := gd_inv h6
    cases h8
    have := Nat.eq_of_beq_eq_true h1
    subst this
    exact ⟨e2, fz, z, u, g, rfl, rfl, h3, h5, h7⟩
  | _ => cases hq
theorem flatT_get : ∀ {t : T AV}, flatT t = true → ∀ p v, t.get p = some v → flat v = true := by
  intro t
  induction t with
  | leaf => intro _ p v h; cases h
  | node l o r ihl ihr =>
    intro h p v hv
    have h : bi (orE o true flat) (bi (flatT l) (flatT r) false) false = true := h
    obtain ⟨h1, h2⟩ := bi_both h
    obtain ⟨h3, h4⟩ := bi_both h2
    cases p with
    | H => have hv : o = some v := hv; subst hv; exact h1
    | O q => exact ihl h3 q v hv
    | I q => exact ihr h4 q v hv
theorem flats_mem : ∀ {l : List AV}, flats l = true → ∀ v ∈ l, flat v = true := by
  intro l
  induction l with
  | nil => intro _ v hv; cases hv
  | cons x l ih =>
    intro h v hv
    have h : bi (flat x) (flats l) false = true := h
    obtain ⟨h1, h2⟩ := bi_both h
    rcases List.mem_cons.mp hv with rfl | hv
    · exact h1
    · exact ih h2 v hv
theorem flats_of : ∀ {l : List AV}, (∀ v ∈ l, flat v = true) → flats l = true := by
  intro l
  induction l with
  | nil => intro _; rfl
  | cons x l ih =>
    intro h
    show bi (flat x) (flats l) false = true
    rw [h x List.mem_cons_self, bi_true]
    exact ih fun v hv => h v (List.mem_cons_of_mem _ hv)
theorem cellsF_some {α : Type} (f : Nat → Option α) : ∀ (n i : Nat), (∀ j, j < n → ∃ v, f (i + j) = some v) → ∃ l, cellsF f n i = some l := by
  intro n
  induction n with
  | zero => intro i _; exact ⟨[], rfl⟩
  | succ n ih =>
    intro i h
    obtain ⟨v, hv⟩ := h 0 (by omega)
    obtain ⟨l, hl⟩ := ih (Nat.succ i) fun j hj => by
      obtain ⟨u, hu⟩ := h (j + 1) (by omega)
      exact ⟨u, by rw [← hu]; congr 1; omega⟩
    refine ⟨v :: l, ?_⟩
    show ob (f i) (fun v => ob (cellsF f n (Nat.succ i)) fun l => some (v :: l)) = _
    rw [show f i = some v from hv]
    show ob (cellsF f n (Nat.succ i)) (fun l => some (v :: l)) = _
    rw [hl]; rfl
theorem quick_cells {e2 : TypeId} {fz k : Nat} {z : List AV} {u : T AV} {g : Option Pos} (hz : hasZ z = true) (hzf : flats z = true) (hu : flatT u = true) : ∃ vs, cellsN (.big e2 fz k z u g) 0 k = some vs ∧ flats vs = true := by
  have hpos : 0 < z.length := by
    cases z with
    | nil => cases hz
    | cons a l => simp
  have hcell : ∀ j, ∃ v, orZ (u.get (pos j)) (zeroAt z j) = some v ∧ flat v = true := by
    intro j
    cases hj : u.get (pos j) with
    | some v => exact ⟨v, rfl, flatT_get hu _ _ hj⟩
    | none =>
      have hm : j % z.length < z.length := Nat.mod_lt _ hpos
      refine ⟨z[j % z.length], ?_, flats_mem hzf _ (List.getElem_mem hm)⟩
      show zeroAt z j = _
      rw [zeroAt_eq, List.getElem?_eq_getElem hm]
  obtain ⟨l, hl⟩ := cellsF_some (fun i => orZ (u.get (pos i)) (zeroAt z i)) k 0 fun j _ => by
    obtain ⟨v, hv, _⟩ := hcell (0 + j)
    exact ⟨v, hv⟩
  refine ⟨l, ?_, ?_⟩
  · show gd (Nat.ble (Nat.add 0 k) k) (cellsF (fun i => orZ (u.get (pos i)) (zeroAt z i)) k 0) = some l
    rw [show Nat.ble (Nat.add 0 k) k = true from Nat.ble_eq.mpr (by show 0 + k ≤ k; omega)]
    exact hl
  · refine flats_of fun v hv => ?_
    obtain ⟨h1, h2⟩ := cellsF_spec _ _ _ _ hl
    obtain ⟨j, hj, hjv⟩ := List.getElem_of_mem hv
    have h3 := h2 j (by omega)
    obtain ⟨v', hv', hf⟩ := hcell (0 + j)
    rw [show orZ (u.get (pos (0 + j))) (zeroAt z (0 + j)) = some v' from hv', List.getElem?_eq_getElem hj] at h3
    cases h3
    rw [← hjv]; exact hf
theorem emptyO_spec {y : AObj} {e : TypeId} (hy : emptyO y e = true) : y = .small e [] := by
  cases y with
  | small e2 l =>
    obtain ⟨h1, h2⟩ := bi_both (b := Nat.beq e2 e) hy
    have := Nat.eq_of_beq_eq_true h1
    subst this
    cases l with
    | nil => rfl
    | cons x l => cases h2
  | _ => cases hy
theorem quick_slow {t : T AObj} {nx b' : Pos} {e : TypeId} {n bytes m z : Nat} {vs : List AV} (hm : 1 ≤ m) (hz : z = n) (hlen : len vs = m * n) (hf : flats vs = true) (hr : Nat.ble (Nat.mul m (Nat.succ bytes)) room = true) (hb : t.get b' = some (.small e [])) :
    append ⟨t, nx⟩ e n bytes (.sl b' 0 0 z) m vs = some (.sl nx 0 m n, new ⟨t.del b', nx⟩ (Ev.big e vs)) := by
  subst hz
  show gd (Nat.beq (len vs) (Nat.mul m z)) (gd (flats vs) (gd (Nat.beq z z) (gd (Nat.ble (Nat.mul (0 + m) (Nat.succ bytes)) room) (ob (t.get b') fun x => ob (grow ⟨t, nx⟩ e b' x 0 (0 * z) vs) fun r => on2 r fun c h => some (AV.sl c 0 (0 + m) z, h))))) = _
  rw [show Nat.beq (len vs) (Nat.mul m z) = true by rw [hlen]; exact Nat.beq_refl _, hf, Nat.beq_refl, Nat.zero_add, hr, hb, Nat.zero_mul]
  show ob (growS ⟨t, nx⟩ e b' (.small e []) 0 0 vs) (fun r => on2 r fun c h => some (AV.sl c 0 m z, h)) = _
  have hg : growS ⟨t, nx⟩ e b' (.small e []) 0 0 vs = some (nx, new ⟨t.del b', nx⟩ (Ev.big e vs)) := by
    show gd (Nat.beq e e) (ob (appO ([] : List AV) vs) fun l => some (nx, new ⟨t.del b', nx⟩ (.big e 0 (len l) [] (tset .leaf 0 l) none))) = _
    rw [Nat.beq_refl]
    rfl
  rw [hg]
  rfl
theorem quick_spec {e : TypeId} {n bytes : Nat} {s v a : AV} {h' : AHeap} (hq : quick h e n bytes s v = some (a, h')) :
    ∃ vs q h1, (ob (len? v) fun m => ob (src v h n m) fun vs => bi (Nat.beq m 0) (onSl s (fun _ _ _ _ => some (s, h)) (gd (isNils s) (some (s, h)))) (append h e n bytes s m vs)) = some (a, new h1 (Ev.big e vs)) ∧ h' = new h1 q ∧ h1.next = h.next ∧
      elemOf q = some e ∧ grpOf q = none ∧ isGrp q = false ∧ isSmall q = false ∧ sizeOf q = sizeOf (Ev.big e vs) ∧ fzOf q = 0 ∧ ∀ i x, cell q i = some x → cell (Ev.big e vs) i = some x := by
  obtain ⟨b, o, m, zz, rfl, hq⟩ := onSl_inv (v := v) hq
  obtain ⟨h2, hq⟩ := gd_inv (b := Nat.beq o 0) hq
  obtain ⟨h3, hq⟩ := gd_inv (b := Nat.ble 1 m) hq
  obtain ⟨h4, hq⟩ := gd_inv (b := Nat.ble (Nat.mul m (Nat.succ bytes)) room) hq
  obtain ⟨y, h5, hq⟩ := ob_inv (o := hget h b) hq
  obtain ⟨q, h6, hq⟩ := ob_inv (o := quickO y e (Nat.mul m n)) hq
  have := Nat.eq_of_beq_eq_true h2
  subst this
  have h3 : 1 ≤ m := Nat.ble_eq.mp h3
  obtain ⟨e2, fz, z, u, g, rfl, rfl, k1, k2, k3⟩ := quickO_spec h6
  obtain ⟨vs, c1, c2⟩ := quick_cells (e2 := e2) (fz := fz) (k := Nat.mul m n) (g := g) k1 k2 k3
  obtain ⟨s1, s2⟩ := cellsN_spec c1
  have hlen : Nat.beq (len vs) (Nat.mul m n) = true := by rw [len_eq, s1]; exact Nat.beq_refl _
  have hm0 : Nat.beq m 0 = false := by
    cases hb : Nat.beq m 0 with
    | false => rfl
    | true => have := Nat.eq_of_beq_eq_true hb; omega
  have hsrc : ∀ {β : Type} (f : List AV → Option β), ob (src (.sl b 0 m zz) h n m) f = f vs := by
    intro β f
    show ob (ob (hget h b) fun x => cellsN x 0 (Nat.mul m n)) f = _
    rw [h5, show (ob (some (AObj.big e2 fz (Nat.mul m n) z u g)) fun x => cellsN x 0 (Nat.mul m n)) = some vs from c1]
    rfl
  have hcells : ∀ i x, cell (AObj.big e 0 (Nat.mul m n) z u none) i = some x → cell (Ev.big e vs) i = some x := by
    intro i x hx
    have hx2 : cell (.big e2 fz (Nat.mul m n) z u g) i = some x := hx
    have hi := cell_lt hx
    have hi : i < Nat.mul m n := hi
    have h8 := s2 i hi
    rw [Nat.zero_add, hx2] at h8
    show gd (Nat.ble (Nat.succ i) (len vs)) (orZ ((tset .leaf 0 vs).get (pos i)) (zeroAt [] i)) = some x
    rw [show Nat.ble (Nat.succ i) (len vs) = true from Nat.ble_eq.mpr (by rw [len_eq, s1]; exact hi)]
    show orZ ((tset .leaf 0 vs).get (pos i)) (zeroAt [] i) = some x
    rw [tset_get, if_pos (by omega), Nat.sub_zero, ← h8]; rfl
  have hsz : sizeOf (AObj.big e 0 (Nat.mul m n) z u none) = sizeOf (Ev.big e vs) := by
    show Nat.mul m n = len vs
    rw [len_eq, s1]
  rcases onSl_append hq with ⟨c, o2, k, z2, rfl, hq⟩ | hq
  · obtain ⟨q1, r1⟩ := gd_inv (b := Nat.beq o2 0) hq
    obtain ⟨q2, r2⟩ := gd_inv (b := Nat.beq k 0) r1
    obtain ⟨q3, r3⟩ := gd_inv (b := Nat.beq z2 n) r2
    obtain ⟨y2, q4, r4⟩ := ob_inv (o := hget h c) r3
    obtain ⟨q5, r5⟩ := gd_inv (b := emptyO y2 e) r4
    clear hq r1 r2 r3 r4
    have := Nat.eq_of_beq_eq_true q1
    subst this
    have := Nat.eq_of_beq_eq_true q2
    subst this
    cases emptyO_spec q5
    obtain ⟨t, nx⟩ := h
    have hq : some (AV.sl nx 0 m n, new ⟨t.del c, nx⟩ (.big e 0 (Nat.mul m n) z u none)) = some (a, h') := r5
    cases hq
    refine ⟨vs, _, ⟨t.del c, nx⟩, ?_, rfl, rfl, rfl, rfl, rfl, rfl, hsz, rfl, hcells⟩
    show ob (src (.sl b 0 m zz) ⟨t, nx⟩ n m) (fun vs => bi (Nat.beq m 0) (some (AV.sl c 0 0 z2, (⟨t, nx⟩ : AHeap))) (append ⟨t, nx⟩ e n bytes (.sl c 0 0 z2) m vs)) = _
    rw [hsrc, hm0, bi_false]
    exact quick_slow h3 (Nat.eq_of_beq_eq_true q3) (by rw [len_eq, s1]; rfl) c2 h4 q4
  · obtain ⟨h1, hq⟩ := gd_inv (b := isNils s) hq
    cases isNils_eq h1
    have hq : some (AV.sl (nextOf h) 0 m n, new h (.big e 0 (Nat.mul m n) z u none)) = some (a, h') := hq
    cases hq
    refine ⟨vs, _, h, ?_, rfl, rfl, rfl, rfl, rfl, rfl, hsz, rfl, hcells⟩
    show ob (src (.sl b 0 m zz) h n m) (fun vs => bi (Nat.beq m 0) (some (AV.nils, h)) (append h e n bytes .nils m vs)) = _
    rw [hsrc, hm0, bi_false]
    show gd (Nat.beq (len vs) (Nat.mul m n)) (gd (flats vs) (gd true (gd (Nat.ble (Nat.mul m (Nat.succ bytes)) room) (some (AV.sl (nextOf h) 0 m n, new h (Ev.big e vs)))))) = _
    rw [hlen, c2, h4]; rfl
theorem g_app2 (R : Rep P φ h w) (D : Pos → Prop) {ts tx ty e : TypeId} {n bytes : Nat} {z s v a : AV} {x y : Value} {h' : AHeap} (hu : P.underlying ts = some (.slice e)) (ht : Src P tx) (hn : szT P e = some n) (hb : bytesT P e = some bytes)
    (hz : zeroT P e = some z) (hzn : len (cells z) = n) (hx : VR φ s x) (hy : VR φ v y)
    (he : orE (quick h e n bytes s v) (ob (len? v) fun m => ob (src v h n m) fun vs => bi (Nat.beq m 0) (onSl s (fun _ _ _ _ => some (s, h)) (gd (isNils s) (some (s, h)))) (append h e n bytes s m vs)) (fun r => some r) = some (a, h')) :
    Does P D φ h w (Builtin.append_ #[ts, tx] ty #[x, y]) h' a := by
  cases hq : quick h e n bytes s v with
  | none => rw [hq] at he; exact g_app R D hu ht hn hb hz hzn hx hy he
  | some r =>
    rw [hq] at he
    cases he
    obtain ⟨vs, q, h1, hs, rfl, hnx, h2, h3, h4, h5, h6, h7, h8⟩ := quick_spec hq
    obtain ⟨u, w', φ', k1, k2, k3, k4⟩ := g_app R D hu ht hn hb hz hzn hx hy hs
    have hnew : (new h1 (Ev.big e vs)).t.get h1.next = some (Ev.big e vs) := by rw [new_t, T.get_set, if_pos rfl]
    refine ⟨u, w', φ', k1, k2, ?_, k4.le, k4.size, k4.os, k4.tape, k4.output, k4.keep, k4.fresh, fun b o hb hob hg hi hn => ?_, by rw [new_next]; have := k4.next; rw [new_next] at this; exact this⟩
    · have hR := k3.swap (y := q) (t' := (new h1 q).t) (next' := (new h1 q).next) hnew (by rw [h2]; rfl) ⟨e, rfl⟩ rfl h3 h4 h5 h6 h7 h8 (fun c => by
        rw [new_t, new_t, T.get_set, T.get_set]
        by_cases hc : h1.next = c
        · rw [if_pos hc, if_pos hc]
        · rw [if_neg hc, if_neg hc, if_neg hc]) (by rw [new_next, new_next]; exact Nat.le_refl _)
      exact hR
    · obtain ⟨p1, p2⟩ := k4.pend b o hb hob hg hi hn
      refine ⟨p1, ?_⟩
      rw [new_t, T.get_set] at p2 ⊢
      by_cases hbn : h1.next = b
      · subst hbn
        have := R.low _ _ hob
        rw [hnx] at this
        omega
      · rw [if_neg hbn] at p2 ⊢; exact p2
end

end Go.Ev
/-
  A small machine over closed data, thirty-four: every operation that writes, but for calls.
-/
namespace Go.Ev

section
variable {P : Program} {φ : Map} {h : AHeap} {w : World}
variable {env : List (Option Tmp)} {ρ : Opd → Option AV} {ρ' : Operand → Value}

/-- what the model does, where the machine gives a value -/
noncomputable def DoesN (P : Program) (D : Pos → Prop) (φ : Map) (h : AHeap) (w : World) (s : Sem Next) (h' : AHeap) (a : AV) : Prop :=
  ∃ nx w' φ', s.run P w = .ok nx w' ∧ Rep P φ' h' w' ∧ Grows D φ φ' h h' w w' ∧ ((∃ v, nx = .value v ∧ VR φ' a v) ∨ (nx = .skip ∧ a = .un))
theorem Does.next {D : Pos → Prop} {s : Sem Value} {h' : AHeap} {a : AV} (g : Does P D φ h w s h' a) : DoesN P D φ h w (do pure (Next.value (← s))) h' a := by
  obtain ⟨v, w', φ', h1, h2, h3, h4⟩ := g
  exact ⟨_, w', φ', by simp [h1], h3, h4, .inl ⟨v, rfl, h2⟩⟩
theorem DoesU.next {D : Pos → Prop} {s : Sem Unit} {h' : AHeap} {a : AV} (g : DoesU P D φ h w s h' ∧ a = .un) : DoesN P D φ h w (do s; pure Next.skip) h' a := by
  obtain ⟨⟨w', h1, h2, h3⟩, rfl⟩ := g
  exact ⟨_, w', φ, by simp [h1], h2, h3, .inr ⟨rfl, rfl⟩⟩

theorem array_two {α : Type} {x : Array α} {a b : α} (hx : x.toList = [a, b]) : x = #[a, b] := by
  apply Array.toList_inj.mp; exact hx

theorem cEq_w (neg : Bool) {t : TypeId} {cx : Bool} {a b : Opd} {mo : WOp} (hc : cEq P neg t cx a b = some (.w mo)) : False := by
  unfold cEq at hc
  split at hc
  all_goals first
    | (cases hc; done)
    | (split at hc <;> first
        | (cases hc; done))
    | (cases hm : (‹Array (String × TypeId)›.isEmpty || cx) <;> rw [hm] at hc <;> cases hc; done)
    | (cases hg : P.eqGuardType P.depth t <;> rw [hg] at hc <;> simp only [cond_false, cond_true] at hc <;> first
        | (cases hc; done)
        | (split at hc <;> first
          | (cases hc; done)))

theorem wBuiltin_sound (R : Rep P φ h w) (D : Pos → Prop) (H : OpdR φ env ρ ρ') {b : Builtin} {args : Array Operand} {ats : Array TypeId} {ty : TypeId} {cs : Array Bool} {wo : WOp} {a : AV} {h' : AHeap} (hc : cBuiltin P env b args.toList ats.toList = some (.w wo)) (he : evw wo ρ h = some (a, h')) :
    DoesN P D φ h w (builtin b ats ty cs (args.map ρ')) h' a := by
  unfold cBuiltin at hc
  split at hc
  · repeat' first
      | (cases hc; done)
      | split at hc
  · rename_i s x ts tx hx ht
    cases array_two hx
    cases array_two ht
    have hm : (#[s, x] : Array Operand).map ρ' = #[ρ' s, ρ' x] := by simp
    rw [hm]
    split at hc
    · rename_i e e2 p q h1 h2 h3 h4
      split at hc
      · rename_i n m z hn hb hz
        split at hc
        · rename_i hzn
          cases hc
          obtain ⟨u, v, h5, h6, h7⟩ := ob2_inv he
          exact (g_app2 R D h1 (.inl ⟨e2, h2⟩) hn hb hz hzn (H s p u h3 h5) (H x q v h4 h6) h7).next
        · cases hc
      · cases hc
    · rename_i e p q h1 h2 h3 h4
      split at hc
      · rename_i n m z hn hb hz
        split at hc
        · rename_i hzn
          cases hc
          obtain ⟨u, v, h5, h6, h7⟩ := ob2_inv he
          exact (g_app2 R D h1 (.inr h2) hn hb hz hzn (H s p u h3 h5) (H x q v h4 h6) h7).next
        · cases hc
      · cases hc
    · cases hc
  · rename_i d s td t2 hx ht
    cases array_two hx
    cases array_two ht
    have hm : (#[d, s] : Array Operand).map ρ' = #[ρ' d, ρ' s] := by simp
    rw [hm]
    split at hc
    · rename_i e p q h1 h2 h3
      split at hc
      · rename_i n hn
        cases hc
        obtain ⟨u, v, h5, h6, h7⟩ := ob2_inv he
        exact (g_cpy (ts := [t2]) (t2 := t2) R D h1 hn (H d p u h2 h5) (H s q v h3 h6) h7).next
      · cases hc
    · cases hc
  · repeat' first
      | (cases hc; done)
      | split at hc
  · repeat' first
      | (cases hc; done)
      | split at hc
  · cases hc; cases he
  · rename_i x hx
    cases array_one hx
    have hm : (#[x] : Array Operand).map ρ' = #[ρ' x] := by simp
    rw [hm]
    split at hc
    · rename_i p h1
      cases hc
      obtain ⟨v, h3, h4⟩ := ob_inv he
      exact (g_usd R D _ _ (H x p v h1 h3) h4).next
    · cases hc
  · rename_i p n t t2 hx ht
    cases array_two hx
    cases array_two ht
    have hm : (#[p, n] : Array Operand).map ρ' = #[ρ' p, ρ' n] := by simp
    rw [hm]
    split at hc
    · rename_i u q r h1 h2 h3
      split at hc
      · rename_i hn
        cases hc
        obtain ⟨x, y, h5, h6, h7⟩ := ob2_inv he
        exact (g_ust (ts := [t2]) R D h1 hn (H p q x h2 h5) (H n r y h3 h6) h7).next
      · cases hc
    · cases hc
  · cases hc

theorem evw_sound (R : Rep P φ h w) (D : Pos → Prop) (H : OpdR φ env ρ ρ') {o : Oper} {wo : WOp} {a : AV} {h' : AHeap} (hc : cop? P env o = some (.w wo)) (he : evw wo ρ h = some (a, h')) : DoesN P D φ h w (execOp ρ' o) h' a := by
  obtain ⟨dst, op, ty, ps, af, gd'⟩ := o
  cases op
  case store t x y =>
    unfold cop? at hc; dsimp only at hc
    split at hc
    · rename_i p q n h1 h2 hn
      cases hc
      obtain ⟨u, h3, h4⟩ := ob_inv he
      cases u with
      | ptr b o =>
        obtain ⟨v, h5, h6⟩ := ob_inv (o := ρ q) h4
        exact DoesU.next (g_sto R D hn (H x p _ h1 h3) (H y q v h2 h5) h6)
      | _ => cases h4
    · cases hc
  case convert s d y =>
    unfold cop? at hc; dsimp only at hc
    unfold cConv at hc
    split at hc
    · cases hc
    · cases hc
    · rename_i e p h1 h2 h3
      split at hc
      · rename_i h4
        cases hc
        obtain ⟨v, h5, h6⟩ := ob_inv he
        exact (g_s2b R D h1 h2 h4 (H y p v h3 h5) h6).next
      · cases hc
    · cases hc
  case makeSlice t l c =>
    unfold cop? at hc; dsimp only at hc
    split at hc
    · rename_i e p q h1 h2 h3
      split at hc
      · rename_i n m z hn hm hz
        obtain ⟨h4, hc⟩ := gd_inv hc
        cases hc
        obtain ⟨lv, h5, h6⟩ := ob_inv he
        obtain ⟨ln, h7, h8⟩ := ob_inv h6
        obtain ⟨cv, h9, h10⟩ := ob_inv h8
        refine (g_mks R D h1 hn hm hz (Nat.eq_of_beq_eq_true h4) (H l p lv h2 h5) (H c q cv h3 h9) ?_).next
        show ob (nat lv) _ = _
        rw [h7]; exact h10
      · cases hc
    · cases hc
  case mapUpdate t m k v =>
    unfold cop? at hc; dsimp only at hc
    split at hc
    · rename_i kt et p q r h1 h2 h3 h4
      split at hc
      · rename_i e hk
        cases hc
        obtain ⟨mv, h5, h6⟩ := ob_inv he
        cases mv with
        | map b =>
          obtain ⟨kv, h7, h8⟩ := ob_inv (o := ρ q) h6
          obtain ⟨vv, h9, h10⟩ := ob_inv (o := ρ r) h8
          exact DoesU.next (g_mup R D h1 (kty_sound hk) (H m p _ h2 h5) (H k q kv h3 h7) (H v r vv h4 h9) h10)
        | _ => cases h6
      · cases hc
    · cases hc
  case insert t m k v =>
    unfold cop? at hc; dsimp only at hc
    split at hc
    · rename_i kt et p q r h1 h2 h3 h4
      split at hc
      · rename_i e hk
        cases hc
        obtain ⟨mv, h5, h6⟩ := ob_inv he
        cases mv with
        | map b =>
          obtain ⟨kv, h7, h8⟩ := ob_inv (o := ρ q) h6
          obtain ⟨vv, h9, h10⟩ := ob_inv (o := ρ r) h8
          exact DoesU.next (g_mup R D h1 (kty_sound hk) (H m p _ h2 h5) (H k q kv h3 h7) (H v r vv h4 h9) h10)
        | _ => cases h6
      · cases hc
    · cases hc
  case call c =>
    unfold cop? at hc; dsimp only at hc
    obtain ⟨callee, args, ats⟩ := c
    cases callee with
    | builtin b =>
      have hb : cBuiltin P env b args.toList ats.toList = some (.w wo) := hc
      obtain ⟨nx, w', φ', h1, h2⟩ := wBuiltin_sound (ty := ty) (cs := args.map fun | .const _ => true | _ => false) R D H hb he
      refine ⟨nx, w', φ', ?_, h2⟩
      simp only [execOp, resolve, Sem.run_bind, Sem.run_pure, Result.andThen_ok, invoke]
      exact h1
    | value f =>
      exfalso
      dsimp only at hc
      cases f <;> dsimp only at hc <;> (split at hc <;> (cases hc; try cases he))
    | invoke r m =>
      exfalso
      dsimp only at hc; split at hc <;> (cases hc; try cases he)
  case binOp op t x y yt =>
    exfalso
    unfold cop? at hc; dsimp only at hc
    unfold cBin at hc
    split at hc
    · cases op <;> first
        | (cases hc; done)
        | exact cEq_w _ hc
    · cases hc
  case makeFunc fn first capt =>
    exfalso
    cases fn with
    | func f =>
      unfold cop? at hc; dsimp only at hc
      split at hc <;> cases hc
    | _ => cases hc
  case slice t y lo hi mx =>
    exfalso
    unfold cop? at hc; dsimp only at hc
    cases mx with
    | some m => cases hc
    | none =>
      dsimp only at hc
      split at hc
      · cases hc
      · split at hc <;> cases hc
      · cases hc
  case buildSlice t len parts =>
    exfalso
    unfold cop? at hc; dsimp only at hc
    split at hc
    · split at hc
      · split at hc
        · obtain ⟨_, hc⟩ := gd_inv hc
          obtain ⟨_, hc⟩ := gd_inv hc
          cases hc
        · cases hc
      · cases hc
    · cases hc
  case makeMap t r =>
    exfalso
    cases r with
    | none => cases hc
    | some y =>
      cases y with
      | const v =>
        cases v with
        | int k n =>
          unfold cop? at hc; dsimp only at hc
          split at hc <;> cases hc
        | _ => cases hc
      | _ => cases hc
  case defer c =>
    exfalso
    unfold cop? at hc; dsimp only at hc
    split at hc
    · split at hc
      · cases hc; cases he
      · cases hc
    · cases hc
  case panic x =>
    exfalso
    unfold cop? at hc; dsimp only at hc
    split at hc
    · cases hc; cases he
    · cases hc
  all_goals
    exfalso
    unfold cop? at hc; dsimp only at hc
    repeat' first
      | (cases hc; done)
      | split at hc
end

end Go.Ev
/-
  A small machine over closed data, thirty-five: what an operation reads.
-/
namespace Go.Ev

section
variable {ρ σ : Opd → Option AV} {h : AHeap}

theorem mapO_congr {l : List Opd} (H : ∀ y ∈ l, ρ y = σ y) : mapO ρ l = mapO σ l := by
  induction l with
  | nil => rfl
  | cons x l ih =>
    show ob (ρ x) (fun y => ob (mapO ρ l) fun r => some (y :: r)) = ob (σ x) (fun y => ob (mapO σ l) fun r => some (y :: r))
    rw [H x (by simp), ih fun y hy => H y (by simp [hy])]
theorem fillp_congr : ∀ {ps : List (Nat × Nat × Opd)} (l : List AV), (∀ y ∈ ps.map (fun p => p.2.2), ρ y = σ y) → fillp ρ ps l = fillp σ ps l := by
  intro ps
  induction ps with
  | nil => intro l _; rfl
  | cons p ps ih =>
    intro l H
    rw [fillp_cons, fillp_cons, H p.2.2 (by simp)]
    congr 1
    funext c
    exact ih c fun y hy => H y (by simp only [List.map_cons, List.mem_cons]; exact .inr hy)
theorem foldO_congr {α β : Type} {f g : β → α → Option β} : ∀ {l : List α} (a : β), (∀ b, ∀ x ∈ l, f b x = g b x) → foldO f l a = foldO g l a := by
  intro l
  induction l with
  | nil => intro a _; rfl
  | cons x l ih =>
    intro a H
    show ob (f a x) (fun b => foldO f l b) = ob (g a x) (fun b => foldO g l b)
    rw [H a x (by simp)]
    congr 1
    funext b
    exact ih b fun c y hy => H c y (by simp [hy])
theorem bndO_congr {d m : Nat} {x : Option Opd} (H : ∀ y ∈ x.toList, ρ y = σ y) : bndO ρ d x m = bndO σ d x m := by
  cases x with
  | none => rfl
  | some x =>
    show ob (ρ x) (fun v => bnd v m) = ob (σ x) (fun v => bnd v m)
    rw [H x (by simp)]
theorem imax_congr {l : List Opd} {k : IntKind} {a : Int} (H : ∀ y ∈ l, ρ y = σ y) : imax ρ l k a = imax σ l k a := by
  unfold imax
  rw [foldO_congr (g := fun a x => ob (σ x) fun v => onInt v (fun l b => gd (keq k l) (some (bi (ilt a b) b a))) none) a fun b x hx => by rw [H x hx]]
theorem imin_congr {l : List Opd} {k : IntKind} {a : Int} (H : ∀ y ∈ l, ρ y = σ y) : imin ρ l k a = imin σ l k a := by
  unfold imin
  rw [foldO_congr (g := fun a x => ob (σ x) fun v => onInt v (fun l b => gd (keq k l) (some (bi (ilt b a) b a))) none) a fun b x hx => by rw [H x hx]]

theorem evq_congr {o : QOp} (H : ∀ y ∈ qopds o, ρ y = σ y) : evq o ρ h = evq o σ h := by
  cases o with
  | mv x => exact H x (by simp [qopds])
  | pick c a b =>
    show ob (ρ c) (fun t => onBool t (fun t => bi t (ρ a) (ρ b)) none) = ob (σ c) (fun t => onBool t (fun t => bi t (σ a) (σ b)) none)
    rw [H c (by simp [qopds]), H a (by simp [qopds]), H b (by simp [qopds])]
  | slS x lo hi =>
    have h1 : ∀ d m, bndO ρ d hi m = bndO σ d hi m := fun d m => bndO_congr fun y hy => H y (by simp only [qopds, List.mem_cons, List.mem_append]; exact .inr (.inr hy))
    have h2 : ∀ d m, bndO ρ d lo m = bndO σ d lo m := fun d m => bndO_congr fun y hy => H y (by simp only [qopds, List.mem_cons, List.mem_append]; exact .inr (.inl hy))
    show ob (ρ x) (fun v => onStr v (fun s => ob (bndO ρ (len s) hi (len s)) fun m => ob (bndO ρ 0 lo m) fun l => ob (tkO (Nat.sub m l) (dr l s)) fun r => some (AV.str r)) none) = ob (σ x) (fun v => onStr v (fun s => ob (bndO σ (len s) hi (len s)) fun m => ob (bndO σ 0 lo m) fun l => ob (tkO (Nat.sub m l) (dr l s)) fun r => some (AV.str r)) none)
    simp only [H x (by simp [qopds]), h1, h2]
  | slV n x lo hi =>
    have h1 : ∀ d m, bndO ρ d hi m = bndO σ d hi m := fun d m => bndO_congr fun y hy => H y (by simp only [qopds, List.mem_cons, List.mem_append]; exact .inr (.inr hy))
    have h2 : ∀ d m, bndO ρ d lo m = bndO σ d lo m := fun d m => bndO_congr fun y hy => H y (by simp only [qopds, List.mem_cons, List.mem_append]; exact .inr (.inl hy))
    show ob (ρ x) (fun v => onSl v (fun b o len z => gd (Nat.beq z n) (ob (bndO ρ len hi len) fun m => ob (bndO ρ 0 lo m) fun l => some (AV.sl b (Nat.add o (Nat.mul l n)) (Nat.sub m l) z)))
      (gd (isNils v) (ob (bndO ρ 0 hi 0) fun m => ob (bndO ρ 0 lo m) fun _ => some .nils))) = ob (σ x) (fun v => onSl v (fun b o len z => gd (Nat.beq z n) (ob (bndO σ len hi len) fun m => ob (bndO σ 0 lo m) fun l => some (AV.sl b (Nat.add o (Nat.mul l n)) (Nat.sub m l) z)))
      (gd (isNils v) (ob (bndO σ 0 hi 0) fun m => ob (bndO σ 0 lo m) fun _ => some .nils)))
    simp only [H x (by simp [qopds]), h1, h2]
  | mkF f a b =>
    show ob (mapO ρ a) (fun x => ob (mapO ρ b) fun y => some (AV.func f x y)) = ob (mapO σ a) (fun x => ob (mapO σ b) fun y => some (AV.func f x y))
    rw [mapO_congr (ρ := ρ) (σ := σ) (l := a) fun y hy => H y (by simp only [qopds, List.mem_append]; exact .inl hy), mapO_congr (ρ := ρ) (σ := σ) (l := b) fun y hy => H y (by simp only [qopds, List.mem_append]; exact .inr hy)]
  | bld z ps =>
    show ob (fillp ρ ps z) (fun l => some (AV.agg l)) = ob (fillp σ ps z) (fun l => some (AV.agg l))
    rw [fillp_congr z H]
  | mx x l =>
    show ob (ρ x) (fun v => onInt v (fun k a => imax ρ l k a) none) = ob (σ x) (fun v => onInt v (fun k a => imax σ l k a) none)
    have h1 : ∀ k a, imax ρ l k a = imax σ l k a := fun k a => imax_congr fun y hy => H y (by simp [qopds, hy])
    simp only [H x (by simp [qopds]), h1]
  | mn x l =>
    show ob (ρ x) (fun v => onInt v (fun k a => imin ρ l k a) none) = ob (σ x) (fun v => onInt v (fun k a => imin σ l k a) none)
    have h1 : ∀ k a, imin ρ l k a = imin σ l k a := fun k a => imin_congr fun y hy => H y (by simp [qopds, hy])
    simp only [H x (by simp [qopds]), h1]
  | bin op x y => show ob (ρ x) _ = ob (σ x) _; simp only [H x (by simp [qopds]), H y (by simp [qopds])]
  | eqb g x y => show ob (ρ x) _ = ob (σ x) _; simp only [H x (by simp [qopds]), H y (by simp [qopds])]
  | eqp g x y => show ob (ρ x) _ = ob (σ x) _; simp only [H x (by simp [qopds]), H y (by simp [qopds])]
  | eqn g k x y => show ob (ρ x) _ = ob (σ x) _; simp only [H x (by simp [qopds]), H y (by simp [qopds])]
  | eqf g x y => show ob (ρ x) _ = ob (σ x) _; simp only [H x (by simp [qopds]), H y (by simp [qopds])]
  | eq g e x y => show ob (ρ x) _ = ob (σ x) _; simp only [H x (by simp [qopds]), H y (by simp [qopds])]
  | un op x => show ob (ρ x) _ = ob (σ x) _; simp only [H x (by simp [qopds])]
  | conv k x => show ob (ρ x) _ = ob (σ x) _; simp only [H x (by simp [qopds])]
  | same x => show ob (ρ x) _ = ob (σ x) _; simp only [H x (by simp [qopds])]
  | fld a b c x => show ob (ρ x) _ = ob (σ x) _; simp only [H x (by simp [qopds])]
  | ext i x => show ob (ρ x) _ = ob (σ x) _; simp only [H x (by simp [qopds])]
  | ixa a b c x i => show ob (ρ x) _ = ob (σ x) _; simp only [H x (by simp [qopds]), H i (by simp [qopds])]
  | ixs x i => show ob (ρ x) _ = ob (σ x) _; simp only [H x (by simp [qopds]), H i (by simp [qopds])]
  | fadr a x => show ob (ρ x) _ = ob (σ x) _; simp only [H x (by simp [qopds])]
  | iadrA a b x i => show ob (ρ x) _ = ob (σ x) _; simp only [H x (by simp [qopds]), H i (by simp [qopds])]
  | iadrS a x i => show ob (ρ x) _ = ob (σ x) _; simp only [H x (by simp [qopds]), H i (by simp [qopds])]
  | nck x => show ob (ρ x) _ = ob (σ x) _; simp only [H x (by simp [qopds])]
  | len x => show ob (ρ x) _ = ob (σ x) _; simp only [H x (by simp [qopds])]
  | lenS x => show ob (ρ x) _ = ob (σ x) _; simp only [H x (by simp [qopds])]
  | mkI t x => show ob (ρ x) _ = ob (σ x) _; simp only [H x (by simp [qopds])]
  | tas a b c x => show ob (ρ x) _ = ob (σ x) _; simp only [H x (by simp [qopds])]
  | ld a b x => show ob (ρ x) _ = ob (σ x) _; simp only [H x (by simp [qopds])]
  | lkp a b c m k => show ob (ρ m) _ = ob (σ m) _; simp only [H m (by simp [qopds]), H k (by simp [qopds])]
  | lenM x => show ob (ρ x) _ = ob (σ x) _; simp only [H x (by simp [qopds])]

theorem evm_congr {o : MOp} {p : Pos} (H : ∀ y ∈ mopds o, ρ y = σ y) : evm o ρ p = evm o σ p := by
  cases o with
  | alc e z => rfl
  | box e x => show ob (ρ x) _ = ob (σ x) _; simp only [H x (by simp [mopds])]
  | bsl e n m z ps =>
    show ob (fillp ρ ps z) (fun l => some (AObj.small e l, AV.sl p 0 m n)) = ob (fillp σ ps z) (fun l => some (AObj.small e l, AV.sl p 0 m n))
    rw [fillp_congr z H]
  | mkm => rfl

theorem evw_congr {o : WOp} (H : ∀ y ∈ wopds o, ρ y = σ y) : evw o ρ h = evw o σ h := by
  cases o with
  | mks a b c d x y => show ob (ρ x) _ = ob (σ x) _; simp only [H x (by simp [wopds]), H y (by simp [wopds])]
  | sto n x y => show ob (ρ x) _ = ob (σ x) _; simp only [H x (by simp [wopds]), H y (by simp [wopds])]
  | mup e m k v => show ob (ρ m) _ = ob (σ m) _; simp only [H m (by simp [wopds]), H k (by simp [wopds]), H v (by simp [wopds])]
  | app a b c x y => show ob (ρ x) _ = ob (σ x) _; simp only [H x (by simp [wopds]), H y (by simp [wopds])]
  | cpy n x y => show ob (ρ x) _ = ob (σ x) _; simp only [H x (by simp [wopds]), H y (by simp [wopds])]
  | s2b e x => show ob (ρ x) _ = ob (σ x) _; simp only [H x (by simp [wopds])]
  | usd x => show ob (ρ x) _ = ob (σ x) _; simp only [H x (by simp [wopds])]
  | ust u x y => show ob (ρ x) _ = ob (σ x) _; simp only [H x (by simp [wopds]), H y (by simp [wopds])]
  | _ => rfl

/-- what does not look into memory -/
theorem evq_calm {o : QOp} {h' : AHeap} (hq : heapQ o = false) : evq o ρ h = evq o ρ h' := by
  cases o <;> first | rfl | cases hq

/-- one block more is nothing to what looks into memory -/
theorem hget_new {o : AObj} (hn : h.t.get h.next = none) {b : Pos} {x : AObj} (hb : hget h b = some x) : hget (new h o) b = some x := by
  obtain ⟨t, n⟩ := h
  have hb : t.get b = some x := hb
  have hn : t.get n = none := hn
  show (new ⟨t, n⟩ o).t.get b = some x
  rw [new_t, T.get_set, if_neg]
  · exact hb
  · rintro rfl; rw [hn] at hb; cases hb
theorem load_new {o : AObj} (hn : h.t.get h.next = none) {b : Pos} {i n : Nat} {g : Bool} {v : AV} (he : load h b i n g = some v) : load (new h o) b i n g = some v := by
  obtain ⟨x, h1, h2⟩ := ob_inv (o := hget h b) he
  show ob (hget (new h o) b) _ = some v
  rw [hget_new hn h1]; exact h2
theorem aprt?_new {o : AObj} (hn : h.t.get h.next = none) {b c : Pos} (hb : aprt? h b c = true) : aprt? (new h o) b c = true := by
  obtain ⟨x, y, h1, h2, h3⟩ := aprt_inv hb
  show orE (hget (new h o) b) false (fun x => orE (hget (new h o) c) false fun y => aprt x y) = true
  rw [hget_new hn h1]
  show orE (hget (new h o) c) false (fun y => aprt x y) = true
  rw [hget_new hn h2]; exact h3
theorem pteq_new {o : AObj} (hn : h.t.get h.next = none) {x y : AV} {r : Bool} (he : pteq h x y = some r) : pteq (new h o) x y = some r := by
  cases x with
  | ptr b p =>
    cases y with
    | ptr c q =>
      have he : bi (peq b c) (some (Nat.beq p q)) (gd (aprt? h b c) (some false)) = some r := he
      show bi (peq b c) (some (Nat.beq p q)) (gd (aprt? (new h o) b c) (some false)) = some r
      cases hp : peq b c with
      | true => rw [hp] at he; exact he
      | false =>
        rw [hp] at he
        obtain ⟨h1, h2⟩ := gd_inv (b := aprt? h b c) he
        rw [aprt?_new hn h1]; exact h2
    | _ => exact he
  | _ => exact he
theorem aeqK_new {o : AObj} (hn : h.t.get h.next = none) {e : KTy} {x y : AV} {r : Bool} (he : aeqK e h x y = some r) : aeqK e (new h o) x y = some r := by
  cases e with
  | ptr => exact pteq_new hn he
  | _ => exact he
theorem find_new {o : AObj} (hn : h.t.get h.next = none) {e : KTy} {k : AV} : ∀ {es : List (AV × AV)} {r : Option AV}, find h e k es = some r → find (new h o) e k es = some r := by
  intro es
  induction es with
  | nil => intro r he; exact he
  | cons p es ih =>
    intro r he
    obtain ⟨a, v⟩ := p
    obtain ⟨b, h1, h2⟩ := ob_inv (o := aeqK e h k a) he
    show ob (aeqK e (new h o) k a) _ = some r
    rw [aeqK_new hn h1]
    show bi b _ _ = some r
    cases b with
    | true => exact h2
    | false => exact ih h2
theorem evq_new {o : QOp} {x : AObj} (hn : h.t.get h.next = none) {v : AV} (he : evq o ρ h = some v) : evq o ρ (new h x) = some v := by
  cases o with
  | ld n g y =>
    obtain ⟨u, h1, h2⟩ := ob_inv (o := ρ y) he
    show ob (ρ y) _ = some v
    rw [h1]
    cases u with
    | ptr b i => exact load_new hn h2
    | _ => exact h2
  | lkp e z ok m k =>
    obtain ⟨mv, h1, h2⟩ := ob_inv (o := ρ m) he
    obtain ⟨kv, h3, h4⟩ := ob_inv (o := ρ k) h2
    show ob (ρ m) _ = some v
    rw [h1]
    show ob (ρ k) _ = some v
    rw [h3]
    cases mv with
    | map b =>
      obtain ⟨y, h5, h6⟩ := ob_inv (o := hget h b) h4
      show ob (hget (new h x) b) _ = some v
      rw [hget_new hn h5]
      cases y with
      | map es =>
        obtain ⟨r, h7, h8⟩ := ob_inv (o := find h e kv es) h6
        show ob (find (new h x) e kv es) _ = some v
        rw [find_new hn h7]; exact h8
      | _ => exact h6
    | _ => exact h4
  | lenM m =>
    obtain ⟨mv, h1, h2⟩ := ob_inv (o := ρ m) he
    show ob (ρ m) _ = some v
    rw [h1]
    cases mv with
    | map b =>
      obtain ⟨y, h5, h6⟩ := ob_inv (o := hget h b) h2
      show ob (hget (new h x) b) _ = some v
      rw [hget_new hn h5]; exact h6
    | _ => exact h2
  | eqp g a b =>
    obtain ⟨u, h1, h2⟩ := ob_inv (o := ρ a) he
    obtain ⟨w, h3, h4⟩ := ob_inv (o := ρ b) h2
    obtain ⟨r, h5, h6⟩ := ob_inv (o := pteq h u w) h4
    show ob (ρ a) _ = some v
    rw [h1]
    show ob (ρ b) _ = some v
    rw [h3]
    show ob (pteq (new h x) u w) _ = some v
    rw [pteq_new hn h5]; exact h6
  | _ => exact he
end

end Go.Ev
/-
  A small machine over closed data, thirty-six: how a region's operations lie.
-/
namespace Go.Ev

theorem allL_iff {α : Type} (f : α → Bool) (l : List α) : allL f l = true ↔ ∀ x ∈ l, f x = true := by
  induction l with
  | nil => simp [allL]
  | cons x l ih =>
    show (bif f x then allL f l else false) = true ↔ _
    cases hx : f x <;> simp [hx, ih]
theorem hasP_iff (p : Pos) (l : List Pos) : hasP p l = true ↔ p ∈ l := by
  induction l with
  | nil => simp [hasP]
  | cons q l ih =>
    show (bif peq p q then true else hasP p l) = true ↔ _
    cases hx : peq p q with
    | true => have := (peq_iff p q).mp hx; simp [this]
    | false =>
      have : p ≠ q := fun he => by rw [(peq_iff p q).mpr he] at hx; cases hx
      simp [ih, this]
theorem bif_inv {b : Bool} {α : Type} {x : Option α} {r : α} (h : (bif b then x else none) = some r) : b = true ∧ x = some r := by
  cases b with
  | true => exact ⟨rfl, h⟩
  | false => cases h
theorem bif_true {b : Bool} {x : Bool} (h : (bif b then x else false) = true) : b = true ∧ x = true := by
  cases b with
  | true => exact ⟨rfl, h⟩
  | false => cases h
theorem findE_get {t : Tmp} : ∀ {l : List (Option Tmp)} {j k : Nat}, findE t l j = some k → ∃ i, k = j + i ∧ l[i]? = some (some t) := by
  intro l
  induction l with
  | nil => intro j k h; cases h
  | cons x l ih =>
    intro j k h
    cases x with
    | none =>
      obtain ⟨i, h1, h2⟩ := ih (j := j + 1) h
      exact ⟨i + 1, by omega, by simpa using h2⟩
    | some u =>
      have h : (bif Nat.beq u t then some j else findE t l (Nat.succ j)) = some k := h
      cases hu : Nat.beq u t with
      | true =>
        rw [hu] at h
        cases h
        exact ⟨0, rfl, by rw [Nat.eq_of_beq_eq_true hu]; rfl⟩
      | false =>
        rw [hu] at h
        obtain ⟨i, h1, h2⟩ := ih (j := j + 1) h
        exact ⟨i + 1, by omega, by simpa using h2⟩

section
variable (P : Program) (K : Nat → Bool) (N : Nat) (ops : Array Oper) (bef : Nat → Nat → Prop)

noncomputable def dstAt (i : Nat) : Option Tmp := (ops[i]?).bind (·.dst)
noncomputable def envOf (pre : List Nat) : List (Option Tmp) := pre.map (dstAt ops)

/-- each temporary is written once -/
structure Once : Prop where
  uniq : ∀ i j t, dstAt ops i = some t → dstAt ops j = some t → i = j
  room : ∀ i t, dstAt ops i = some t → t < N

/-- an operation, behind others -/
structure At (pre : List Nat) (i : Nat) (left : List Nat) (o : Oper) (g : Option (Nat × Bool)) (a : AOp) : Prop where
  op : ops[i]? = some o
  grd : grd (envOf ops pre) ops o.guard = some g
  act : cop P (envOf ops pre) o = a
  loc : ∀ q, .loc q ∈ aopds a → ∃ j, pre[q]? = some j ∧ bef i j
  var : ∀ t, .var (pos t) ∈ aopds a → ∀ j, dstAt ops j = some t → j ≠ i → bef j i
  gloc : ∀ q b, g = some (q, b) → ∃ j, pre[q]? = some j ∧ bef i j
  preds : ∀ j, bef i j → j ∈ pre
  fresh : i ∉ pre
  stop : isW a = true → ∀ j ∈ left, bef j i

/-- what looked into memory, and need not lie ahead of an operation that writes, is looked at again behind that -/
structure Again (pre : List Nat) (i : Nat) (cs : List AIns) : Prop where
  only : ∀ c ∈ cs, ∃ qo k, c = .chk qo k
  all : ∀ new j pj o qo, pre = new ++ j :: pj → ops[j]? = some o → cop P (envOf ops pj) o = .q qo → heapQ qo = true → ¬ bef i j →
    .chk qo (new.length + 1) ∈ cs ∧ ∀ p, .var p ∈ qopds qo → ∀ j' t, dstAt ops j' = some t → pos t ≠ p

inductive Ins : List Nat → List Nat → List AIns → Prop where
  | nil (pre : List Nat) : Ins pre [] []
  | op (pre : List Nat) (i : Nat) (left : List Nat) (o : Oper) (g : Option (Nat × Bool)) (a : AOp) (cs is : List AIns) (h : At P ops bef pre i left o g a) (hq : isW a = false → cs = []) (hw : isW a = true → Again P ops bef pre i cs)
      (hs : Ins (i :: pre) left is) : Ins pre (i :: left) (.op (keepT K o.dst) g a :: (cs ++ is))
end

section
variable {P : Program} {K : Nat → Bool} {N : Nat} {ops : Array Oper}

theorem dstAt_some {i : Nat} {t : Tmp} (h : dstAt ops i = some t) : ∃ o, ops[i]? = some o ∧ o.dst = some t := by
  unfold dstAt at h
  cases ho : ops[i]? with
  | none => rw [ho] at h; cases h
  | some o => rw [ho] at h; exact ⟨o, rfl, h⟩
theorem dstAt_of {i : Nat} {o : Oper} (h : ops[i]? = some o) : dstAt ops i = o.dst := by unfold dstAt; rw [h]; rfl

theorem dstOk_inv {m m' : Nat} {t : Option Tmp} (h : dstOk N m t = some m') : (t = none ∧ m' = m) ∨ ∃ u, t = some u ∧ Nat.testBit m u = false ∧ u < N ∧ m' = m ||| 2 ^ u := by
  cases t with
  | none => cases h; exact .inl ⟨rfl, rfl⟩
  | some u =>
    refine .inr ⟨u, rfl, ?_⟩
    have h : (bif Nat.testBit m u then none else bif Nat.ble (Nat.succ u) N then some (Nat.lor m (Nat.pow 2 u)) else none) = some m' := h
    cases h1 : Nat.testBit m u with
    | true => rw [h1] at h; cases h
    | false =>
      rw [h1] at h
      obtain ⟨h2, h3⟩ := bif_inv (b := Nat.ble (Nat.succ u) N) h
      cases h3
      exact ⟨rfl, Nat.ble_eq.mp h2, rfl⟩

/-- what a mask of temporaries says -/
structure Mask (N : Nat) (ops : Array Oper) (pre : List Nat) (m : Nat) : Prop where
  iff : ∀ t, Nat.testBit m t = true ↔ ∃ j ∈ pre, dstAt ops j = some t
  uniq : ∀ i ∈ pre, ∀ j ∈ pre, ∀ t, dstAt ops i = some t → dstAt ops j = some t → i = j
  room : ∀ i ∈ pre, ∀ t, dstAt ops i = some t → t < N
theorem Mask.nil : Mask N ops [] 0 := ⟨fun t => by simp, by simp, by simp⟩
theorem Mask.cons {pre : List Nat} {m m' i : Nat} {o : Oper} (M : Mask N ops pre m) (ho : ops[i]? = some o) (h : dstOk N m o.dst = some m') : Mask N ops (i :: pre) m' := by
  have hd := dstAt_of ho
  rcases dstOk_inv h with ⟨h1, h2⟩ | ⟨u, h1, h2, h3, h4⟩
  · rw [h1] at hd
    subst h2
    refine ⟨fun t => ?_, ?_, ?_⟩
    · rw [M.iff]; simp [hd]
    · intro a ha b hb t h5 h6
      rcases List.mem_cons.mp ha with rfl | ha
      · rw [hd] at h5; cases h5
      · rcases List.mem_cons.mp hb with rfl | hb
        · rw [hd] at h6; cases h6
        · exact M.uniq a ha b hb t h5 h6
    · intro a ha t h5
      rcases List.mem_cons.mp ha with rfl | ha
      · rw [hd] at h5; cases h5
      · exact M.room a ha t h5
  · rw [h1] at hd
    subst h4
    have hno : ∀ j ∈ pre, dstAt ops j ≠ some u := fun j hj he => by
      have := (M.iff u).mpr ⟨j, hj, he⟩
      rw [h2] at this; cases this
    refine ⟨fun t => ?_, ?_, ?_⟩
    · rw [Nat.testBit_or, Nat.testBit_two_pow, Bool.or_eq_true, M.iff, decide_eq_true_eq]
      constructor
      · rintro (⟨j, hj, h5⟩ | rfl)
        · exact ⟨j, by simp [hj], h5⟩
        · exact ⟨i, by simp, hd⟩
      · rintro ⟨j, hj, h5⟩
        rcases List.mem_cons.mp hj with rfl | hj
        · rw [hd] at h5; cases h5; exact .inr rfl
        · exact .inl ⟨j, hj, h5⟩
    · intro a ha b hb t h5 h6
      rcases List.mem_cons.mp ha with ha' | ha'
      · rcases List.mem_cons.mp hb with hb' | hb'
        · rw [ha', hb']
        · rw [ha', hd] at h5; cases h5; exact absurd h6 (hno b hb')
      · rcases List.mem_cons.mp hb with hb' | hb'
        · rw [hb', hd] at h6; cases h6; exact absurd h5 (hno a ha')
        · exact M.uniq a ha' b hb' t h5 h6
    · intro a ha t h5
      rcases List.mem_cons.mp ha with rfl | ha
      · rw [hd] at h5; cases h5; exact h3
      · exact M.room a ha t h5
theorem Mask.once {pre : List Nat} {m : Nat} (M : Mask N ops pre m) (hall : ∀ i, i < ops.size → i ∈ pre) : Once N ops := by
  have hin : ∀ i t, dstAt ops i = some t → i ∈ pre := fun i t h => by
    obtain ⟨o, h1, _⟩ := dstAt_some h
    exact hall i (Array.getElem?_eq_some_iff.mp h1).1
  exact ⟨fun i j t h1 h2 => M.uniq i (hin i t h1) j (hin j t h2) t h1 h2, fun i t h => M.room i (hin i t h) t h⟩

theorem grd_loc {pre : List Nat} {g : Option (Nat × Bool)} {q : Nat} {b : Bool} (h : grd (envOf ops pre) ops g = some (some (q, b))) :
    ∃ j t, g = some (j, b) ∧ dstAt ops j = some t ∧ ∃ j', pre[q]? = some j' ∧ dstAt ops j' = some t := by
  unfold grd at h
  cases g with
  | none => cases h
  | some jb =>
    obtain ⟨j, b'⟩ := jb
    dsimp only at h
    split at h
    · rename_i t ht
      split at h
      · rename_i i hi
        cases h
        obtain ⟨k, h1, h2⟩ := findE_get hi
        rw [Nat.zero_add] at h1
        subst h1
        refine ⟨j, t, rfl, ht, ?_⟩
        unfold envOf at h2
        rw [List.getElem?_map] at h2
        cases hp : pre[q]? with
        | none => rw [hp] at h2; cases h2
        | some j' => rw [hp] at h2; exact ⟨j', rfl, by simpa using h2⟩
      · cases h
    · cases h

/-- the text's order -/
theorem cops_ins : ∀ (l : List Oper) (n m : Nat) (env : List (Option Tmp)) (ds : List Pos) (is : List AIns) (env' : List (Option Tmp)), cops P K N ops env ds n m l = some (is, env') → ops.toList.drop n = l →
    env = envOf ops (List.range n).reverse → Mask N ops (List.range n).reverse m → (∀ p, p ∈ ds ↔ ∃ j, j < n ∧ ∃ t, dstAt ops j = some t ∧ pos t = p) →
    Ins P K ops (fun i j => j < i) (List.range n).reverse (List.range' n l.length) is ∧ env' = envOf ops (List.range (n + l.length)).reverse ∧ ∃ m', Mask N ops (List.range (n + l.length)).reverse m' := by
  intro l
  induction l with
  | nil =>
    intro n m env ds is env' h _ he M _
    cases h
    exact ⟨.nil _, he, m, M⟩
  | cons o l ih =>
    intro n m env ds is env' h hl he M hds
    unfold cops at h
    split at h
    · rename_i g m' hg hm
      obtain ⟨h1, h2⟩ := bif_inv h
      have ho : ops[n]? = some o := by
        rw [← Array.getElem?_toList]
        have := congrArg (fun l => l[0]?) hl
        simpa [List.getElem?_drop] using this
      have hpre : (List.range (n + 1)).reverse = n :: (List.range n).reverse := by rw [List.range_succ]; simp
      split at h2
      · rename_i is' env'' hrec
        cases h2
        have hl' : ops.toList.drop (n + 1) = l := by
          have := congrArg List.tail hl
          rw [List.tail_drop] at this; simpa using this
        obtain ⟨g1, g2, g3⟩ := ih (n + 1) m' (o.dst :: env) (morePos o.dst ds) is' env' hrec hl' (by rw [hpre, he]; show _ = dstAt ops n :: envOf ops _; rw [dstAt_of ho]) (by rw [hpre]; exact M.cons ho hm) (fun p => by
          have hd := dstAt_of ho
          cases hdst : o.dst with
          | none =>
            show p ∈ ds ↔ _
            rw [hds]
            constructor
            · rintro ⟨j, h3, h4⟩; exact ⟨j, by omega, h4⟩
            · rintro ⟨j, h3, t, h4, h5⟩
              refine ⟨j, ?_, t, h4, h5⟩
              rcases Nat.lt_or_ge j n with h6 | h6
              · exact h6
              · have : j = n := by omega
                subst this; rw [hd, hdst] at h4; cases h4
          | some u =>
            show p ∈ pos u :: ds ↔ _
            rw [List.mem_cons, hds]
            constructor
            · rintro (rfl | ⟨j, h3, h4⟩)
              · exact ⟨n, by omega, u, by rw [hd, hdst], rfl⟩
              · exact ⟨j, by omega, h4⟩
            · rintro ⟨j, h3, t, h4, h5⟩
              rcases Nat.lt_or_ge j n with h6 | h6
              · exact .inr ⟨j, h6, t, h4, h5⟩
              · have : j = n := by omega
                subst this; rw [hd, hdst] at h4; cases h4; exact .inl h5.symm)
        rw [hpre] at g1
        have hat : At P ops (fun i j => j < i) (List.range n).reverse n (List.range' (n + 1) l.length) o g (cop P env o) := by
          have hok := (allL_iff _ _).mp h1
          have hget : ∀ q, q < n → ∃ j, (List.range n).reverse[q]? = some j ∧ j < n := fun q hq => by
            refine ⟨n - 1 - q, ?_, by omega⟩
            rw [List.getElem?_reverse (by simpa using hq), List.length_range, List.getElem?_range (by omega)]
          have hlen : env.length = n := by rw [he]; simp [envOf]
          refine ⟨ho, by rw [← he]; exact hg, by rw [← he], ?_, ?_, ?_, ?_, ?_, ?_⟩
          · intro q hq
            have := hok _ hq
            exact hget q (Nat.ble_eq.mp this)
          · intro t ht j hj hne
            have := hok _ ht
            have h3 : ¬ pos t ∈ ds := fun h4 => by
              have h5 : (! hasP (pos t) ds) = true := this
              rw [(hasP_iff _ _).mpr h4] at h5; cases h5
            rw [hds] at h3
            rcases Nat.lt_or_ge j n with h6 | h6
            · exact absurd ⟨j, h6, t, hj, rfl⟩ h3
            · show n < j; omega
          · intro q b hgq
            subst hgq
            rw [he] at hg
            obtain ⟨j, t, _, _, j', h5, _⟩ := grd_loc hg
            have hq : q < n := by
              have := (List.getElem?_eq_some_iff.mp h5).1
              simpa using this
            exact hget q hq
          · intro j hj; simp; exact hj
          · simp
          · intro _ j hj
            have := (List.mem_range'_1.mp hj).1
            show n < j; omega
        have := Ins.op (K := K) _ n _ o g (cop P env o) [] is' hat (fun _ => rfl) (fun _ => ⟨by simp, fun new j pj o' qo hp _ _ _ hb => by
          exfalso
          apply hb
          have : j ∈ (List.range n).reverse := by rw [hp]; simp
          simpa using this⟩) g1
        refine ⟨?_, ?_, ?_⟩
        · simpa [List.range'_succ] using this
        · rw [g2, List.length_cons, show n + (l.length + 1) = n + 1 + l.length by omega]
        · obtain ⟨m'', h9⟩ := g3
          exact ⟨m'', by rw [List.length_cons, show n + (l.length + 1) = n + 1 + l.length by omega]; exact h9⟩
      · cases h2
    · cases h
end

end Go.Ev
/-
  A small machine over closed data, thirty-seven: how the operations of a region lie that draws its order.
-/
namespace Go.Ev

section
variable {P : Program} {K : Nat → Bool} {N : Nat} {ops : Array Oper} {b : Array Nat}

theorem chks_spec {ds : List Pos} {m n : Nat} : ∀ {ls : List Look} {cs : List AIns}, chks ds m n ls = some cs → (∀ c ∈ cs, ∃ qo k, c = .chk qo k) ∧
    ∀ x ∈ ls, Nat.testBit m x.i = false → .chk x.o (n - (x.at_ + 1)) ∈ cs ∧ ∀ p, .var p ∈ qopds x.o → p ∉ ds := by
  intro ls
  induction ls with
  | nil => intro cs h; cases h; simp
  | cons y ls ih =>
    intro cs h
    unfold chks at h
    cases hb : Nat.testBit m y.i with
    | true =>
      rw [hb] at h
      obtain ⟨h1, h2⟩ := ih h
      refine ⟨h1, fun x hx hm => ?_⟩
      rcases List.mem_cons.mp hx with rfl | hx
      · rw [hb] at hm; cases hm
      · exact h2 x hx hm
    | false =>
      rw [hb] at h
      obtain ⟨h3, h4⟩ := bif_inv (b := allL (calmO ds) (qopds y.o)) h
      split at h4
      · rename_i r hr
        cases h4
        obtain ⟨h1, h2⟩ := ih hr
        refine ⟨fun c hc => ?_, fun x hx hm => ?_⟩
        · rcases List.mem_cons.mp hc with rfl | hc
          · exact ⟨_, _, rfl⟩
          · exact h1 c hc
        · rcases List.mem_cons.mp hx with rfl | hx
          · refine ⟨by simp, fun p hp hd => ?_⟩
            have h5 : (! hasP p ds) = true := (allL_iff _ _).mp h3 _ hp
            rw [(hasP_iff _ _).mpr hd] at h5; cases h5
          · obtain ⟨h5, h6⟩ := h2 x hx hm
            exact ⟨by simp [h5], h6⟩
      · cases h4

theorem lateOk_spec {i : Nat} {p : Pos} : ∀ {ts : List (Pos × Nat)}, lateOk b i p ts = true → ∀ j, (p, j) ∈ ts → j ≠ i → Nat.testBit (b.getD j 0) i = true := by
  intro ts
  induction ts with
  | nil => intro _ j hj; simp at hj
  | cons x ts ih =>
    intro h j hj hne
    obtain ⟨q, k⟩ := x
    have h : (bif peq p q then (bif Nat.beq k i then lateOk b i p ts else bif Nat.testBit (b.getD k 0) i then lateOk b i p ts else false) else lateOk b i p ts) = true := h
    cases hp : peq p q with
    | false =>
      rw [hp] at h
      rcases List.mem_cons.mp hj with he | hj
      · cases he; rw [(peq_iff p p).mpr rfl] at hp; cases hp
      · exact ih h j hj hne
    | true =>
      rw [hp] at h
      have h : (bif Nat.beq k i then lateOk b i p ts else bif Nat.testBit (b.getD k 0) i then lateOk b i p ts else false) = true := h
      cases hk : Nat.beq k i with
      | true =>
        rw [hk] at h
        rcases List.mem_cons.mp hj with he | hj
        · cases he; exact absurd (Nat.eq_of_beq_eq_true hk) hne
        · exact ih h j hj hne
      | false =>
        rw [hk] at h
        obtain ⟨h1, h2⟩ := bif_true (b := Nat.testBit (b.getD k 0) i) h
        rcases List.mem_cons.mp hj with he | hj
        · cases he; exact h1
        · exact ih h2 j hj hne

theorem dstsAt_mem {t : Tmp} : ∀ (l : List Oper) (n j : Nat) (o : Oper), l[j]? = some o → o.dst = some t → (pos t, n + j) ∈ dstsAt n l := by
  intro l
  induction l with
  | nil => intro n j o h; simp at h
  | cons x l ih =>
    intro n j o h hd
    cases j with
    | zero =>
      simp at h; subst h
      unfold dstsAt; rw [hd]; simp
    | succ j =>
      have := ih (n + 1) j o (by simpa using h) hd
      have h2 : (pos t, n + (j + 1)) ∈ dstsAt (Nat.succ n) l := by rw [show n + (j + 1) = n + 1 + j by omega]; exact this
      unfold dstsAt
      split
      · exact List.mem_cons_of_mem _ h2
      · exact h2
theorem dstAt_mem {j : Nat} {t : Tmp} (h : dstAt ops j = some t) : (pos t, j) ∈ dstsAt 0 ops.toList := by
  obtain ⟨o, h1, h2⟩ := dstAt_some h
  have := dstsAt_mem ops.toList 0 j o (by rw [Array.getElem?_toList]; exact h1) h2
  rwa [Nat.zero_add] at this
theorem dstsOf_mem {j : Nat} {t : Tmp} (h : dstAt ops j = some t) : pos t ∈ dstsOf ops.toList := by
  obtain ⟨o, h1, h2⟩ := dstAt_some h
  unfold dstsOf
  rw [List.mem_filterMap]
  exact ⟨o, by simpa using Array.mem_of_getElem? h1, by rw [h2]; rfl⟩

theorem okAt_inv {pre : List Nat} {D i : Nat} {ts : List (Pos × Nat)} {g : Option (Nat × Bool)} {a : AOp} {l : List Nat} (h : okAt b pre D i ts g a l = true) :
    Nat.testBit D i = false ∧ (b.getD i 0) &&& D = b.getD i 0 ∧ (∀ y ∈ aopds a, readOk b pre i ts y = true) ∧ (∀ q r, g = some (q, r) → readOk b pre i ts (.loc q) = true) ∧ (isW a = true → ∀ j ∈ l, Nat.testBit (b.getD j 0) i = true) := by
  unfold okAt at h
  cases h1 : Nat.testBit D i with
  | true => rw [h1] at h; cases h
  | false =>
    rw [h1] at h
    obtain ⟨h2, h⟩ := bif_true (b := Nat.beq (Nat.land (b.getD i 0) D) (b.getD i 0)) h
    obtain ⟨h3, h⟩ := bif_true h
    obtain ⟨h4, h⟩ := bif_true h
    refine ⟨rfl, Nat.eq_of_beq_eq_true h2, (allL_iff _ _).mp h3, fun q r hg => by subst hg; exact h4, fun hw => ?_⟩
    rw [hw] at h
    exact (allL_iff _ _).mp h

/-- the order that a region that draws is taken in -/
theorem cdraw_ins : ∀ (l : List Nat) (env : List (Option Tmp)) (pre : List Nat) (D m n : Nat) (ls : List Look) (is : List AIns) (env' : List (Option Tmp)),
    cdraw P K N ops (dstsOf ops.toList) (dstsAt 0 ops.toList) b env pre D m n ls l = some (is, env') → env = envOf ops pre → (∀ j, Nat.testBit D j = true ↔ j ∈ pre) → Mask N ops pre m → n = pre.length → pre.Nodup →
    (∀ new j pj o qo, pre = new ++ j :: pj → ops[j]? = some o → cop P (envOf ops pj) o = .q qo → heapQ qo = true → (⟨qo, j, pj.length⟩ : Look) ∈ ls) →
    Ins P K ops (fun i j => Nat.testBit (b.getD i 0) j = true) pre l is ∧ env' = envOf ops (l.reverse ++ pre) ∧ (∃ m', Mask N ops (l.reverse ++ pre) m') ∧ (l.reverse ++ pre).Nodup ∧ ∀ j ∈ l, j < ops.size := by
  intro l
  induction l with
  | nil =>
    intro env pre D m n ls is env' h he hD M hn hnd hls
    cases h
    exact ⟨.nil _, he, ⟨m, M⟩, hnd, by simp⟩
  | cons i l ih =>
    intro env pre D m n ls is env' h he hD M hn hnd hls
    unfold cdraw at h
    split at h
    · rename_i o ho
      split at h
      · rename_i g m' hg hm
        obtain ⟨h1, h2⟩ := bif_inv h
        obtain ⟨k1, k2, k3, k4, k5⟩ := okAt_inv h1
        split at h2
        · rename_i cs is' env'' hcs hrec
          cases h2
          have hfresh : i ∉ pre := fun hi => by
            have := (hD i).mpr hi
            rw [k1] at this; cases this
          have hpreds : ∀ j, Nat.testBit (b.getD i 0) j = true → j ∈ pre := fun j hj => by
            rw [← hD]
            rw [← k2, Nat.testBit_and, Bool.and_eq_true] at hj
            exact hj.2
          obtain ⟨g1, g2, g3, g4, g5⟩ := ih (o.dst :: env) (i :: pre) (Nat.lor D (Nat.pow 2 i)) m' (Nat.succ n) (lookOf (cop P env o) i n ls) is' env' hrec (by rw [he]; show _ = dstAt ops i :: envOf ops _; rw [dstAt_of ho])
            (fun j => by
              show Nat.testBit (D ||| 2 ^ i) j = true ↔ _
              rw [Nat.testBit_or, Nat.testBit_two_pow, Bool.or_eq_true, hD, decide_eq_true_eq, List.mem_cons]
              constructor
              · rintro (h9 | h9)
                · exact .inr h9
                · exact .inl h9.symm
              · rintro (h9 | h9)
                · exact .inr h9.symm
                · exact .inl h9) (M.cons ho hm) (by rw [hn]; rfl) (List.nodup_cons.mpr ⟨hfresh, hnd⟩)
            (fun new j pj o' qo hp ho' hc hh => by
              cases new with
              | nil =>
                rw [List.nil_append] at hp
                cases hp
                rw [ho] at ho'; cases ho'
                rw [he, hc]
                show (⟨qo, i, pre.length⟩ : Look) ∈ bif heapQ qo then _ else ls
                rw [hh, hn]; simp
              | cons x new =>
                cases hp
                have := hls new j pj o' qo rfl ho' hc hh
                unfold lookOf
                split
                · cases heapQ _ with
                  | true => exact List.mem_cons_of_mem _ this
                  | false => exact this
                · exact this)
          have hat : At P ops (fun i j => Nat.testBit (b.getD i 0) j = true) pre i l o g (cop P env o) := by
            have hloc : ∀ q, readOk b pre i (dstsAt 0 ops.toList) (.loc q) = true → ∃ j, pre[q]? = some j ∧ Nat.testBit (b.getD i 0) j = true := fun q hq => by
              unfold readOk at hq
              dsimp only at hq
              split at hq
              · rename_i j hj
                rw [nth_eq] at hj
                exact ⟨j, hj, hq⟩
              · cases hq
            refine ⟨ho, by rw [← he]; exact hg, by rw [← he], ?_, ?_, ?_, hpreds, hfresh, k5⟩
            · intro q hq; exact hloc q (k3 _ hq)
            · intro t ht j hj hne
              have : lateOk b i (pos t) (dstsAt 0 ops.toList) = true := k3 _ ht
              exact lateOk_spec this j (dstAt_mem hj) hne
            · intro q r hgq
              exact hloc q (k4 q r hgq)
          refine ⟨.op pre i l o g _ cs is' hat (fun hw => ?_) (fun hw => ?_) g1, ?_, ?_, ?_, ?_⟩
          · rw [hw] at hcs; cases hcs; rfl
          · rw [hw] at hcs
            obtain ⟨c1, c2⟩ := chks_spec hcs
            refine ⟨c1, fun new j pj o' qo hp ho' hc hh hb => ?_⟩
            have hl := hls new j pj o' qo hp ho' hc hh
            obtain ⟨c3, c4⟩ := c2 _ hl (by simpa using hb)
            refine ⟨?_, fun p hp' j' t hj' he' => c4 p hp' (by rw [← he']; exact dstsOf_mem hj')⟩
            have hlen : n.succ - (pj.length + 1) = new.length + 1 := by
              rw [hn, hp]; simp; omega
            rw [← hlen]; exact c3
          · rw [g2]; simp
          · simpa using g3
          · simpa using g4
          · intro j hj
            rcases List.mem_cons.mp hj with rfl | hj
            · exact (Array.getElem?_eq_some_iff.mp ho).1
            · exact g5 j hj
        · cases h2
      · cases h
    · cases h
end

end Go.Ev
/-
  A small machine over closed data, thirty-eight: the orders that the model draws.
-/
namespace Go.Ev

theorem nodup_le {a b : List Nat} (hn : a.Nodup) (h : ∀ x ∈ a, x ∈ b) : a.length ≤ b.length := by
  induction a generalizing b with
  | nil => simp
  | cons x a ih =>
    obtain ⟨h1, h2⟩ := List.nodup_cons.mp hn
    have hx : x ∈ b := h x (by simp)
    have := ih (b := b.erase x) h2 fun y hy => (List.mem_erase_of_ne (by rintro rfl; exact h1 hy)).mpr (h y (by simp [hy]))
    rw [List.length_erase_of_mem hx] at this
    have := List.length_pos_of_mem hx
    simp only [List.length_cons]
    omega
theorem full_mem {l : List Nat} {n : Nat} (hn : l.Nodup) (h : ∀ x ∈ l, x < n) (hl : l.length = n) (i : Nat) (hi : i < n) : i ∈ l := by
  refine Classical.byContradiction fun hno => ?_
  have := nodup_le (a := i :: l) (b := List.range n) (List.nodup_cons.mpr ⟨hno, hn⟩) (fun x hx => by
    rcases List.mem_cons.mp hx with rfl | hx
    · simpa using hi
    · simpa using h x hx)
  simp at this
  omega
theorem some_free {l : List Nat} {n : Nat} (hl : l.length < n) : ∃ i, i < n ∧ i ∉ l ∧ ∀ j, j < i → j ∈ l := by
  have : ∃ i, i < n ∧ i ∉ l := by
    refine Classical.byContradiction fun hno => ?_
    have := nodup_le (a := List.range n) (b := l) List.nodup_range (fun x hx => Classical.byContradiction fun hx2 => hno ⟨x, by simpa using hx, hx2⟩)
    simp at this
    omega
  obtain ⟨i, hi⟩ := this
  induction i using Nat.strongRecOn with
  | _ i ih =>
    by_cases hj : ∃ j, j < i ∧ j ∉ l
    · obtain ⟨j, h1, h2⟩ := hj
      exact ih j h1 ⟨by omega, h2⟩
    · exact ⟨i, hi.1, hi.2, fun j hji => Classical.byContradiction fun h2 => hj ⟨j, hji, h2⟩⟩

section
variable {ops : Array Oper}

/-- each operation behind those that its edges name -/
noncomputable def LinE (ops : Array Oper) (l : List Nat) : Prop := ∀ a i c, l = a ++ i :: c → ∃ o, ops[i]? = some o ∧ ∀ e ∈ o.after, Region.binds .any e = true → e.on ∈ a

structure Listed (ops : Array Oper) (listed : Array Bool) (acc : List Nat) : Prop where
  size : listed.size = ops.size
  iff : ∀ i, listed.getD i false = true ↔ i ∈ acc
  nodup : acc.Nodup
  lt : ∀ i ∈ acc, i < ops.size
  lin : LinE ops acc.reverse

theorem LinE.nil : LinE ops [] := fun a i c h => by cases a <;> cases h
theorem snoc_split {l a c : List Nat} {x i : Nat} (h : l ++ [x] = a ++ i :: c) : (c = [] ∧ a = l ∧ i = x) ∨ ∃ c', c = c' ++ [x] ∧ l = a ++ i :: c' := by
  cases hc : c.reverse with
  | nil =>
    have : c = [] := List.reverse_eq_nil_iff.mp hc
    subst this
    have := List.append_inj' h rfl
    obtain ⟨h1, h2⟩ := this
    cases h2
    exact .inl ⟨rfl, h1.symm, rfl⟩
  | cons y r =>
    have hcc : c = r.reverse ++ [y] := by
      have := congrArg List.reverse hc
      simpa using this
    subst hcc
    right
    refine ⟨r.reverse, ?_, ?_⟩
    · have h2 : l ++ [x] = (a ++ i :: r.reverse) ++ [y] := by rw [h]; simp
      have := List.append_inj' h2 rfl
      obtain ⟨_, h3⟩ := this
      cases h3; rfl
    · have h2 : l ++ [x] = (a ++ i :: r.reverse) ++ [y] := by rw [h]; simp
      exact (List.append_inj' h2 rfl).1

theorem go_spec (hE : ∀ i o, ops[i]? = some o → ∀ e ∈ o.after, Region.binds .any e = true → e.on < i) : ∀ (fuel t : Nat) (listed : Array Bool) (acc : List Nat), Listed ops listed acc → fuel + acc.length = ops.size →
    ∃ acc' : List Nat, Region.linearise.go .any ops fuel t listed acc = acc'.reverse ∧ acc'.Nodup ∧ (∀ i ∈ acc', i < ops.size) ∧ LinE ops acc'.reverse ∧ acc'.length = ops.size := by
  intro fuel
  induction fuel with
  | zero =>
    intro t listed acc L hl
    exact ⟨acc, rfl, L.nodup, L.lt, L.lin, by omega⟩
  | succ fuel ih =>
    intro t listed acc L hl
    have hstep : Region.linearise.go .any ops (fuel + 1) t listed acc = match (Region.ready .any ops listed)[t % (Region.ready .any ops listed).length]? with
      | some i => Region.linearise.go .any ops fuel (t / (Region.ready .any ops listed).length) (listed.setIfInBounds i true) (i :: acc)
      | none => acc.reverse := rfl
    rw [hstep]
    generalize hr : Region.ready .any ops listed = rs
    have hne : rs ≠ [] := by
      obtain ⟨i, h1, h2, h3⟩ := some_free (l := acc) (n := ops.size) (by omega)
      intro hnil
      have : i ∈ Region.ready .any ops listed := by
        rw [mem_ready]
        refine ⟨?_, ops[i], Array.getElem?_eq_getElem h1, fun e he hb => ?_⟩
        · have hlt : i < listed.size := by rw [L.size]; exact h1
          have := fun he => h2 ((L.iff i).mp he)
          simp [hlt] at this ⊢
          exact this
        · exact (L.iff _).mpr (h3 _ (hE i _ (Array.getElem?_eq_getElem h1) e he hb))
      rw [hr, hnil] at this
      simp at this
    have hpos : 0 < rs.length := List.length_pos_iff.mpr hne
    have hmod : t % rs.length < rs.length := Nat.mod_lt _ hpos
    rw [List.getElem?_eq_getElem hmod]
    dsimp only
    generalize hi : rs[t % rs.length] = i
    have himem : i ∈ Region.ready .any ops listed := by rw [hr, ← hi]; exact List.getElem_mem hmod
    obtain ⟨h0, o, ho, hall⟩ := mem_ready.mp himem
    have hlt : i < ops.size := (Array.getElem?_eq_some_iff.mp ho).1
    have hls : i < listed.size := by rw [L.size]; exact hlt
    have hno : i ∉ acc := fun hm => by
      have := (L.iff i).mpr hm
      simp [hls] at this h0
      rw [this] at h0; cases h0
    refine ih _ _ _ ⟨by simpa using L.size, fun j => ?_, List.nodup_cons.mpr ⟨hno, L.nodup⟩, fun j hj => ?_, ?_⟩ (by simp only [List.length_cons]; omega)
    · by_cases hji : i = j
      · subst hji; simp [hls]
      · rw [getD_set_ne false hji, L.iff]; simp [Ne.symm hji]
    · rcases List.mem_cons.mp hj with rfl | hj
      · exact hlt
      · exact L.lt j hj
    · intro a k c hk
      rw [List.reverse_cons] at hk
      rcases snoc_split hk with ⟨_, rfl, rfl⟩ | ⟨c', _, h2⟩
      · refine ⟨o, ho, fun e he hb => ?_⟩
        rw [List.mem_reverse]
        exact (L.iff _).mp (hall e he hb)
      · exact L.lin a k c' h2

theorem linearise_spec (hE : ∀ i o, ops[i]? = some o → ∀ e ∈ o.after, Region.binds .any e = true → e.on < i) (t : Nat) :
    (Region.linearise .any ops t).Nodup ∧ (∀ i, i ∈ Region.linearise .any ops t ↔ i < ops.size) ∧ LinE ops (Region.linearise .any ops t) := by
  obtain ⟨acc, h1, h2, h3, h4, h5⟩ := go_spec hE ops.size t (Array.replicate ops.size false) [] ⟨by simp, fun i => by
    by_cases hi : i < ops.size <;> simp [hi], List.nodup_nil, by simp, LinE.nil⟩ (by simp)
  have h1 : Region.linearise .any ops t = acc.reverse := h1
  rw [h1]
  refine ⟨List.pairwise_reverse.mpr (h2.imp fun hne => Ne.symm hne), fun i => ?_, h4⟩
  rw [List.mem_reverse]
  exact ⟨h3 i, full_mem h2 h3 h5 i⟩

/-- who must come ahead of an operation, along its edges -/
noncomputable def beforeF (acc : Array Nat) (o : Oper) : Array Nat := acc.push (o.after.foldl (fun s e => if Region.binds .any e then s ||| 2 ^ e.on ||| acc.getD e.on 0 else s) 0)
theorem edges_bit (acc : Array Nat) (j : Nat) : ∀ (l : List Edge) (s : Nat), Nat.testBit (l.foldl (fun s e => if Region.binds .any e then s ||| 2 ^ e.on ||| acc.getD e.on 0 else s) s) j = true →
    Nat.testBit s j = true ∨ ∃ e ∈ l, Region.binds .any e = true ∧ (j = e.on ∨ Nat.testBit (acc.getD e.on 0) j = true) := by
  intro l
  induction l with
  | nil => intro s h; exact .inl h
  | cons e l ih =>
    intro s h
    rw [List.foldl_cons] at h
    rcases ih _ h with h1 | ⟨e', h1, h2⟩
    · split at h1
      · rename_i hb
        rw [Nat.testBit_or, Nat.testBit_or, Nat.testBit_two_pow, Bool.or_eq_true, Bool.or_eq_true, decide_eq_true_eq] at h1
        rcases h1 with (h1 | h1) | h1
        · exact .inl h1
        · exact .inr ⟨e, by simp, hb, .inl h1.symm⟩
        · exact .inr ⟨e, by simp, hb, .inr h1⟩
      · exact .inl h1
    · exact .inr ⟨e', by simp [h1], h2⟩
theorem beforeF_spec : ∀ (l : List Oper) (acc : Array Nat), (l.foldl beforeF acc).size = acc.size + l.length ∧ (∀ i, i < acc.size → (l.foldl beforeF acc).getD i 0 = acc.getD i 0) ∧
    ∀ k o j, l[k]? = some o → Nat.testBit ((l.foldl beforeF acc).getD (acc.size + k) 0) j = true →
      ∃ e ∈ o.after, Region.binds .any e = true ∧ (j = e.on ∨ (e.on < acc.size + k ∧ Nat.testBit ((l.foldl beforeF acc).getD e.on 0) j = true)) := by
  intro l
  induction l with
  | nil => intro acc; exact ⟨rfl, fun _ _ => rfl, fun k o j h => by simp at h⟩
  | cons x l ih =>
    intro acc
    obtain ⟨h1, h2, h3⟩ := ih (beforeF acc x)
    have hsz : (beforeF acc x).size = acc.size + 1 := by simp [beforeF]
    have hold : ∀ i, i < acc.size → (beforeF acc x).getD i 0 = acc.getD i 0 := fun i hi => by
      simp only [beforeF, Array.getD_eq_getD_getElem?]
      rw [Array.getElem?_push_lt hi, Array.getElem?_eq_getElem hi]
    have hnew : (beforeF acc x).getD acc.size 0 = x.after.foldl (fun s e => if Region.binds .any e then s ||| 2 ^ e.on ||| acc.getD e.on 0 else s) 0 := by
      simp [beforeF, Array.getD_eq_getD_getElem?]
    rw [List.foldl_cons]
    refine ⟨by rw [h1, hsz]; simp; omega, fun i hi => by rw [h2 i (by omega), hold i hi], fun k o j hk hb => ?_⟩
    cases k with
    | zero =>
      simp at hk; subst hk
      rw [Nat.add_zero, h2 _ (by omega), hnew, ← Array.foldl_toList] at hb
      rcases edges_bit acc j _ 0 hb with h4 | ⟨e, h4, h5, h6⟩
      · simp at h4
      · refine ⟨e, by simpa using h4, h5, ?_⟩
        rcases h6 with h6 | h6
        · exact .inl h6
        · have hlt : e.on < acc.size := by
            rcases Nat.lt_or_ge e.on acc.size with h7 | h7
            · exact h7
            · rw [Array.getD_eq_getD_getElem?, Array.getElem?_eq_none h7] at h6; simp at h6
          exact .inr ⟨by omega, by rw [h2 _ (by omega), hold _ hlt]; exact h6⟩
    | succ k =>
      have := h3 k o j (by simpa using hk) (by rw [hsz, show acc.size + 1 + k = acc.size + (k + 1) by omega]; exact hb)
      rw [hsz, show acc.size + 1 + k = acc.size + (k + 1) by omega] at this
      exact this
theorem before_spec {i j : Nat} (h : Nat.testBit ((Region.before ops).getD i 0) j = true) :
    ∃ o, ops[i]? = some o ∧ ∃ e ∈ o.after, Region.binds .any e = true ∧ (j = e.on ∨ (e.on < i ∧ Nat.testBit ((Region.before ops).getD e.on 0) j = true)) := by
  have hb : Region.before ops = ops.toList.foldl beforeF #[] := by
    show ops.foldl beforeF #[] = _
    rw [← Array.foldl_toList]
  rw [hb] at h ⊢
  obtain ⟨h1, h2, h3⟩ := beforeF_spec ops.toList #[]
  rcases Nat.lt_or_ge i ops.size with hi | hi
  · have ho : ops.toList[i]? = some ops[i] := by simp [hi]
    have := h3 i ops[i] j ho (by rw [show (#[] : Array Nat).size + i = i by simp]; exact h)
    rw [show (#[] : Array Nat).size + i = i by simp] at this
    exact ⟨ops[i], by simp [hi], this⟩
  · rw [Array.getD_eq_getD_getElem?, Array.getElem?_eq_none (by rw [h1]; simp; omega)] at h
    simp at h

/-- each operation behind all that must come ahead -/
noncomputable def Lin (bef : Nat → Nat → Prop) (l : List Nat) : Prop := ∀ a i c, l = a ++ i :: c → ∀ j, bef i j → j ∈ l → j ∈ a
theorem Lin.of_edges {l : List Nat} (h : LinE ops l) (hn : l.Nodup) : Lin (fun i j => Nat.testBit ((Region.before ops).getD i 0) j = true) l := by
  have key : ∀ i a c, l = a ++ i :: c → ∀ j, Nat.testBit ((Region.before ops).getD i 0) j = true → j ∈ a := by
    intro i
    induction i using Nat.strongRecOn with
    | _ i ih =>
      intro a c hl j hb
      obtain ⟨o, h1, e, h2, h3, h4⟩ := before_spec hb
      obtain ⟨o', h5, h6⟩ := h a i c hl
      rw [h1] at h5; cases h5
      have he := h6 e h2 h3
      rcases h4 with rfl | ⟨h7, h8⟩
      · exact he
      · obtain ⟨a1, a2, ha⟩ := List.append_of_mem he
        have := ih e.on h7 a1 (a2 ++ i :: c) (by rw [hl, ha]; simp) j h8
        rw [ha]; simp [this]
  exact fun a i c hl j hb _ => key i a c hl j hb
theorem Lin.tail {bef : Nat → Nat → Prop} {x : Nat} {l : List Nat} (h : Lin bef (x :: l)) (hn : (x :: l).Nodup) : Lin bef l := by
  intro a i c hl j hb hj
  have := h (x :: a) i c (by rw [hl]; rfl) j hb (by simp [hj])
  rcases List.mem_cons.mp this with rfl | h1
  · exact absurd hj (List.nodup_cons.mp hn).1
  · exact h1
theorem Lin.head {bef : Nat → Nat → Prop} {x : Nat} {l : List Nat} (h : Lin bef (x :: l)) {j : Nat} (hb : bef x j) : j ∉ x :: l := fun hj => by
  have := h [] x l rfl j hb hj
  cases this
theorem Lin.text (n : Nat) : Lin (fun i j => j < i) (List.range n) := by
  intro a i c hl j hb _
  have h1 : (List.range n)[a.length]? = some i := by rw [hl]; simp
  have h2 : a.length = i := by
    have := (List.getElem?_eq_some_iff.mp h1)
    obtain ⟨h3, h4⟩ := this
    simpa using h4
  have h3 : (List.range n)[j]? = a[j]? := by rw [hl, List.getElem?_append_left (by show j < _; omega)]
  have hn : i < n := by
    have := List.mem_range.mp (List.mem_of_getElem? h1); exact this
  have hj : j < n := by omega
  rw [List.getElem?_range hj] at h3
  exact List.mem_of_getElem? h3.symm
end

end Go.Ev
/-
  A small machine over closed data, thirty-nine: a region, as it was read.
-/
namespace Go.Ev

section
variable {P : Program} {K : Nat → Bool} {N : Nat} {ops : Array Oper}

structure Plan (P : Program) (K : Nat → Bool) (N : Nat) (ops : Array Oper) (is : List AIns) (env : List (Option Tmp)) (dirty : List Pos) (bef : Nat → Nat → Prop) (od : List Nat) : Prop where
  ins : Ins P K ops bef [] od is
  env : env = envOf ops od.reverse
  once : Once N ops
  nodup : od.Nodup
  full : ∀ i, i ∈ od ↔ i < ops.size
  dirty : (∀ j t, dstAt ops j = some t → K t = true → pos t ∈ dirty) ∨ ∀ i j, bef i j ∨ bef j i ∨ i = j

/-- the orders in which the model may take a region's operations -/
noncomputable def Order (P : Program) (ops : Array Oper) (draw : Bool) (l : List Nat) : Prop := (draw = false ∧ l = List.range ops.size) ∨ (draw = true ∧ ∃ t, l = Region.schedule (P.follows .mixedOrders) ops t)

theorem edgesOk_spec : ∀ (l : List Oper) (n i : Nat) (o : Oper), edgesOk n l = true → l[i]? = some o → ∀ e ∈ o.after, Region.binds .any e = true → e.on < n + i := by
  intro l
  induction l with
  | nil => intro n i o _ h; simp at h
  | cons x l ih =>
    intro n i o h ho e he hb
    obtain ⟨h1, h2⟩ := bif_true (b := allL (edgeOk n) x.after.toList) h
    cases i with
    | zero =>
      simp at ho; subst ho
      have h3 : edgeOk n e = true := (allL_iff _ _).mp h1 e (by simpa using he)
      unfold edgeOk at h3
      rw [hb] at h3
      exact Nat.ble_eq.mp h3
    | succ i =>
      have := ih (n + 1) i o h2 (by simpa using ho) e he hb
      omega

theorem dirtyOf_mem {j : Nat} {t : Tmp} (h : dstAt ops j = some t) (hK : K t = true) : pos t ∈ dirtyOf K ops.toList := by
  obtain ⟨o, h1, h2⟩ := dstAt_some h
  unfold dirtyOf
  rw [List.mem_filterMap]
  refine ⟨o, by simpa using Array.mem_of_getElem? h1, ?_⟩
  rw [h2]
  show (bif K t then some (pos t) else none) = _
  rw [hK]; rfl

theorem creg_plan (hmix : P.follows .mixedOrders = true) {draw : Bool} {is : List AIns} {env : List (Option Tmp)} {dirty : List Pos} (h : creg P K N ops draw = some (is, env, dirty)) :
    ∃ bef od, Plan P K N ops is env dirty bef od ∧ ∀ l, Order P ops draw l → l.Nodup ∧ (∀ i, i ∈ l ↔ i < ops.size) ∧ Lin bef l := by
  unfold creg at h
  cases draw with
  | true =>
    rw [cond_true] at h
    dsimp only at h
    obtain ⟨h1, h⟩ := bif_inv h
    obtain ⟨h2, h⟩ := bif_inv h
    generalize order (Region.before ops) (wsOf P 0 ops.toList) (List.range ops.size) 0 (wsOf P 0 ops.toList) = od at h h2
    split at h
    · rename_i is' env' hd
      cases h
      obtain ⟨g1, g2, ⟨m, g3⟩, g4, g5⟩ := cdraw_ins od [] [] 0 0 0 [] is env hd rfl (fun j => by simp) Mask.nil rfl List.nodup_nil (fun new j pj o qo hp => by cases new <;> cases hp)
      rw [List.append_nil] at g2 g3 g4
      have hn : od.Nodup := List.pairwise_reverse.mp (g4.imp fun hne => Ne.symm hne)
      have hlen : od.length = ops.size := by rw [← len_eq]; exact Nat.eq_of_beq_eq_true h2
      have hfull : ∀ i, i ∈ od ↔ i < ops.size := fun i => ⟨g5 i, full_mem hn g5 hlen i⟩
      refine ⟨_, od, ⟨g1, g2, g3.once fun i hi => by rw [List.mem_reverse]; exact (hfull i).mpr hi, hn, hfull, .inl fun j t => dirtyOf_mem⟩, ?_⟩
      intro l hl
      rcases hl with ⟨h3, _⟩ | ⟨_, t, rfl⟩
      · cases h3
      · have hE : ∀ i o, ops[i]? = some o → ∀ e ∈ o.after, Region.binds .any e = true → e.on < i := fun i o ho e he hb => by
          have := edgesOk_spec ops.toList 0 i o h1 (by rw [Array.getElem?_toList]; exact ho) e he hb
          omega
        obtain ⟨k1, k2, k3⟩ := linearise_spec hE t
        have : Region.schedule (P.follows .mixedOrders) ops t = Region.linearise .any ops t := by unfold Region.schedule; rw [hmix]; rfl
        rw [this]
        exact ⟨k1, k2, Lin.of_edges k3 k1⟩
    · cases h
  | false =>
    rw [cond_false] at h
    split at h
    · rename_i is' env' hd
      cases h
      obtain ⟨g1, g2, m, g3⟩ := cops_ins ops.toList 0 0 [] [] is env hd rfl rfl Mask.nil (fun p => by simp)
      rw [Nat.zero_add, Array.length_toList] at g2 g3
      rw [Array.length_toList, ← List.range_eq_range'] at g1
      refine ⟨_, List.range ops.size, ⟨g1, g2, g3.once fun i hi => by simpa using hi, List.nodup_range, fun i => List.mem_range, .inr fun i j => by omega⟩, ?_⟩
      intro l hl
      rcases hl with ⟨_, rfl⟩ | ⟨h3, _⟩
      · exact ⟨List.nodup_range, fun i => List.mem_range, Lin.text _⟩
      · cases h3
    · cases h
end

/-- what an operand is -/
noncomputable def evT (tmps : Array Value) : Operand → Value
  | .tmp t => tmps.getD t undef
  | .const v => v
  | .global g => .pointer (some ⟨g, 0, none⟩)
  | .func f => .func (.func f) #[] #[]

section
variable (P : Program) (K : Nat → Bool) (N : Nat) (ops : Array Oper) (bef : Nat → Nat → Prop)

/-- an operand of an operation that the model has still to do: it waits for another one, or stands already for what is known -/
noncomputable def OpdOK (φ : Map) (pre rest : List Nat) (vals : Nat → AV) (tmps : Array Value) (j : Nat) (x : Operand) (a : AV) : Prop :=
  (∃ t i, x = .tmp t ∧ i ∈ pre ∧ i ∈ rest ∧ dstAt ops i = some t ∧ vals i = a ∧ bef j i) ∨
  (VR φ a (evT tmps x) ∧ ∀ t, x = .tmp t → ∀ i ∈ rest, i ≠ j → dstAt ops i = some t → bef i j)

noncomputable def wantedV (v : AV) (b : Bool) : Option Bool := onBool v (fun c => some (bi b c (not c))) (gd (isUndef v) (some false))

/-- what the guard of an operation that the model has still to do will say -/
inductive GuardOK (φ : Map) (pre rest : List Nat) (vals : Nat → AV) (tmps : Array Value) (j : Nat) : Option (Nat × Bool) → Bool → Prop where
  | none : GuardOK φ pre rest vals tmps j none true
  | some (i : Nat) (b : Bool) (t : Tmp) (v : AV) (r : Bool) (ht : dstAt ops i = some t) (hv : OpdOK ops bef φ pre rest vals tmps j (.tmp t) v) (hr : wantedV v b = some r) : GuardOK φ pre rest vals tmps j (some (i, b)) r

/-- what an operation that the model has still to do will give -/
noncomputable def Cert (φ : Map) (h : AHeap) (pre rest : List Nat) (cs : List AIns) (vals : Nat → AV) (vars : T AV) (tmps : Array Value) (pd : List (Nat × Pos)) (new : List Nat) (j : Nat) (pj : List Nat) : Prop :=
  ∃ (o : Oper) (vs : T AV) (r : Bool), ops[j]? = some o ∧ (∀ p, (∀ i t, dstAt ops i = some t → pos t ≠ p) → vs.get p = vars.get p) ∧
    (∀ y ∈ aopds (cop P (envOf ops pj) o), ∀ a, opd y (pj.map vals) vs = some a → ∀ x, copd (envOf ops pj) x = some y → OpdOK ops bef φ pre rest vals tmps j x a) ∧
    GuardOK ops bef φ pre rest vals tmps j o.guard r ∧
    (r = false → vals j = .tup []) ∧
    (r = true → (∃ qo, cop P (envOf ops pj) o = .q qo ∧ ((evq qo (fun x => opd x (pj.map vals) vs) h = some (vals j)) ∨
        (heapQ qo = true ∧ .chk qo new.length ∈ cs ∧ ∀ p, .var p ∈ qopds qo → ∀ i t, dstAt ops i = some t → pos t ≠ p))) ∨
      (∃ mo p ob, cop P (envOf ops pj) o = .m mo ∧ evm mo (fun x => opd x (pj.map vals) vs) p = some (ob, vals j) ∧ (j, p) ∈ pd ∧ h.t.get p = some ob))

/-- blocks that the model has still to make -/
structure Held (φ : Map) (h : AHeap) (D : Pos → Prop) (pd : List (Nat × Pos)) : Prop where
  held : ∀ q ∈ pd, φ q.2 = none ∧ ∃ ob, h.t.get q.2 = some ob ∧ grpOf ob = none ∧ isGrp ob = false
  nodup : (pd.map (·.2)).Nodup
  far : ∀ q ∈ pd, ¬ D q.2

/-- in the midst of a region: the machine has done 'pre', and checks 'cs' anew; the model has 'rest' still to do -/
structure RegS (φ : Map) (h : AHeap) (pre left : List Nat) (cs is : List AIns) (rest : List Nat) (vals : Nat → AV) (vars : T AV) (tmps : Array Value) (pd : List (Nat × Pos)) : Prop where
  ins : Ins P K ops bef pre left is
  chk : ∀ c ∈ cs, ∃ qo k, c = .chk qo k
  sub : ∀ i ∈ left, i ∈ rest
  mem : ∀ i ∈ rest, i ∈ pre ∨ i ∈ left
  nodup : rest.Nodup
  both : (pre ++ left).Nodup
  lin : Lin bef rest
  closed : ∀ j ∈ pre, ∀ i, bef j i → i ∈ pre
  size : N ≤ tmps.size
  conc : ∀ i ∈ pre, i ∉ rest → ∀ t, dstAt ops i = some t → VR φ (vals i) (tmps.getD t undef)
  varsR : ∀ t v, vars.get (pos t) = some v → K t = true ∧ (∀ i ∈ pre, i ∈ rest → dstAt ops i = some t → v = vals i) ∧ ((∀ i ∈ pre, i ∈ rest → dstAt ops i ≠ some t) → VR φ v (tmps.getD t undef))
  cert : ∀ new j pj, pre = new ++ j :: pj → j ∈ rest → Cert P ops bef φ h pre rest cs vals vars tmps pd new j pj
end

end Go.Ev
/-
  A small machine over closed data, forty: the machine goes ahead in a region.
-/
namespace Go.Ev

theorem all2_eq {f : AV → AV → Bool} (hf : ∀ a b, f a b = true → a = b) : ∀ (x y : List AV), all2 f x y = true → x = y := by
  intro x
  induction x with
  | nil => intro y h; cases y with
    | nil => rfl
    | cons b y => cases h
  | cons a x ih => intro y h; cases y with
    | nil => cases h
    | cons b y =>
      have h : bi (f a b) (all2 f x y) false = true := h
      cases hab : f a b with
      | false => rw [hab] at h; cases h
      | true => rw [hab] at h; rw [hf a b hab, ih y h]
theorem bif_tf {b x : Bool} (h : bi b x false = true) : b = true ∧ x = true := by
  cases b with
  | true => exact ⟨rfl, h⟩
  | false => cases h
theorem keq_same {k l : IntKind} (h : keq k l = true) : k = l := by cases k <;> cases l <;> first | rfl | cases h
theorem ieq_same {a b : Int} (h : ieq a b = true) : a = b := by rw [ieq_eq] at h; exact eq_of_beq h
theorem same_eq : ∀ (d : Nat) (a b : AV), same d a b = true → a = b := by
  intro d
  induction d with
  | zero => intro a b h; cases h
  | succ d ih =>
    intro a b h
    cases a with
    | un => cases b <;> first | rfl | cases h
    | bool x => cases b with
      | bool y => cases x <;> cases y <;> first | rfl | cases h
      | _ => cases h
    | int k x => cases b with
      | int l y =>
        obtain ⟨h1, h2⟩ := bif_tf (b := keq k l) h
        rw [keq_same h1, ieq_same h2]
      | _ => cases h
    | str x => cases b with
      | str y => rw [(seq_iff x y).mp h]
      | _ => cases h
    | nilp => rw [isNilp_eq h]
    | ptr x o => cases b with
      | ptr y p =>
        obtain ⟨h1, h2⟩ := bif_tf (b := peq x y) h
        rw [(peq_iff x y).mp h1, Nat.eq_of_beq_eq_true h2]
      | _ => cases h
    | nils => rw [isNils_eq h]
    | sl x o n z => cases b with
      | sl y p m w =>
        obtain ⟨h1, h2⟩ := bif_tf (b := peq x y) h
        obtain ⟨h3, h4⟩ := bif_tf (b := Nat.beq o p) h2
        obtain ⟨h5, h6⟩ := bif_tf (b := Nat.beq n m) h4
        rw [(peq_iff x y).mp h1, Nat.eq_of_beq_eq_true h3, Nat.eq_of_beq_eq_true h5, Nat.eq_of_beq_eq_true h6]
      | _ => cases h
    | nilm => rw [isNilm_eq h]
    | map x => cases b with
      | map y => rw [(peq_iff x y).mp h]
      | _ => cases h
    | nilf => cases b <;> first | rfl | cases h
    | func f x y => cases b with
      | func g z w =>
        obtain ⟨h1, h2⟩ := bif_tf (b := Nat.beq f g) h
        obtain ⟨h3, h4⟩ := bif_tf (b := all2 (same d) x z) h2
        rw [Nat.eq_of_beq_eq_true h1, all2_eq ih x z h3, all2_eq ih y w h4]
      | _ => cases h
    | yld x => cases b with
      | yld y => rw [(peq_iff x y).mp h]
      | _ => cases h
    | nili => rw [isNili_eq h]
    | iface t x => cases b with
      | iface u y =>
        obtain ⟨h1, h2⟩ := bif_tf (b := Nat.beq t u) h
        rw [Nat.eq_of_beq_eq_true h1, ih x y h2]
      | _ => cases h
    | agg x => cases b with
      | agg y => rw [all2_eq ih x y h]
      | _ => cases h
    | tup x => cases b with
      | tup y => rw [all2_eq ih x y h]
      | _ => cases h

section
variable {P : Program} {K : Nat → Bool} {N : Nat} {ops : Array Oper} {bef : Nat → Nat → Prop}
variable {φ : Map} {h h' : AHeap} {pre left : List Nat} {cs is : List AIns} {rest : List Nat} {vals : Nat → AV} {vars : T AV} {tmps : Array Value} {pd pd' : List (Nat × Pos)}

theorem opd_loc {q : Nat} {loc : List AV} : opd (.loc q) loc vars = loc[q]? := nth_eq loc q
theorem opd_var {p : Pos} {loc : List AV} : opd (.var p) loc vars = vars.get p := rfl
theorem opd_cst {v : AV} {loc : List AV} : opd (.cst v) loc vars = some v := rfl

/-- what stands for a temporary -/
theorem copd_loc {pre : List Nat} {x : Operand} {q : Nat} (h : copd (envOf ops pre) x = some (.loc q)) : ∃ t j, x = .tmp t ∧ pre[q]? = some j ∧ dstAt ops j = some t := by
  cases x with
  | tmp t =>
    unfold copd at h
    dsimp only at h
    split at h
    · rename_i k hk
      cases h
      obtain ⟨i, h1, h2⟩ := findE_get hk
      rw [Nat.zero_add] at h1
      subst h1
      unfold envOf at h2
      rw [List.getElem?_map] at h2
      cases hp : pre[q]? with
      | none => rw [hp] at h2; cases h2
      | some j => rw [hp] at h2; exact ⟨t, j, rfl, rfl, by simpa using h2⟩
    · cases h
  | const v => unfold copd at h; dsimp only at h; split at h <;> cases h
  | func f => cases h
  | global g => cases h
theorem copd_var {env : List (Option Tmp)} {x : Operand} {p : Pos} (h : copd env x = some (.var p)) : ∃ t, x = .tmp t ∧ p = pos t := by
  cases x with
  | tmp t =>
    unfold copd at h
    dsimp only at h
    split at h <;> cases h
    exact ⟨t, rfl, rfl⟩
  | const v => unfold copd at h; dsimp only at h; split at h <;> cases h
  | func f => cases h
  | global g => cases h
theorem copd_cst {env : List (Option Tmp)} {x : Operand} {v : AV} (h : copd env x = some (.cst v)) : (∀ t, x ≠ .tmp t) ∧ ∀ φ tmps, VR φ v (evT tmps x) := by
  cases x with
  | tmp t =>
    unfold copd at h
    dsimp only at h
    split at h <;> cases h
  | const u =>
    unfold copd at h
    dsimp only at h
    split at h
    · rename_i a ha
      cases h
      exact ⟨by simp, fun φ tmps => absV_sound 4 u v ha⟩
    · cases h
  | func f =>
    cases h
    exact ⟨by simp, fun φ tmps => .func f [] [] #[] #[] .nil .nil⟩
  | global g => cases h

theorem upd_same (f : Nat → AV) (i : Nat) (v : AV) : (fun j => if j = i then v else f j) i = v := by simp
noncomputable def put (f : Nat → AV) (i : Nat) (v : AV) : Nat → AV := fun j => if j = i then v else f j
theorem put_same (f : Nat → AV) (i : Nat) (v : AV) : put f i v i = v := by simp [put]
theorem put_ne {f : Nat → AV} {i j : Nat} {v : AV} (h : j ≠ i) : put f i v j = f j := by simp [put, h]
theorem put_map {f : Nat → AV} {i : Nat} {v : AV} {l : List Nat} (h : i ∉ l) : l.map (put f i v) = l.map f :=
  List.map_congr_left fun j hj => put_ne (by rintro rfl; exact h hj)

/-- an operand of the next operation -/
theorem RegS.opd (S : RegS P K N ops bef φ h pre left cs is rest vals vars tmps pd) (U : Once N ops) {i : Nat} {left' : List Nat} {o : Oper} {g : Option (Nat × Bool)} {a : AOp} (A : At P ops bef pre i left' o g a) :
    (∀ y ∈ aopds a, ∀ v, opd y (pre.map vals) vars = some v → ∀ x, copd (envOf ops pre) x = some y → OpdOK ops bef φ pre rest vals tmps i x v) ∧
    ∀ q b, g = some (q, b) → ∀ v, (pre.map vals)[q]? = some v → ∀ t, (∃ j, pre[q]? = some j ∧ dstAt ops j = some t) → OpdOK ops bef φ pre rest vals tmps i (.tmp t) v := by
  have hloc : ∀ (q : Nat) (t : Tmp) (j : Nat) (v : AV), pre[q]? = some j → dstAt ops j = some t → bef i j → (pre.map vals)[q]? = some v → OpdOK ops bef φ pre rest vals tmps i (.tmp t) v := by
    intro q t j v h1 h2 h3 h4
    rw [List.getElem?_map, h1] at h4
    cases h4
    have hj : j ∈ pre := List.mem_of_getElem? h1
    by_cases hr : j ∈ rest
    · exact .inl ⟨t, j, rfl, hj, hr, h2, rfl, h3⟩
    · refine .inr ⟨S.conc j hj hr t h2, fun t' ht' k hk _ hkt => ?_⟩
      cases ht'
      have := U.uniq k j t hkt h2
      subst this
      exact absurd hk hr
  refine ⟨fun y hy v hv x hx => ?_, fun q b hg v hv t ⟨j, hj, hjt⟩ => ?_⟩
  · cases y with
    | loc q =>
      obtain ⟨t, j, rfl, h1, h2⟩ := copd_loc hx
      obtain ⟨j', h3, h4⟩ := A.loc q hy
      rw [h1] at h3; cases h3
      rw [opd_loc] at hv
      exact hloc q t j v h1 h2 h4 hv
    | var p =>
      obtain ⟨t, rfl, rfl⟩ := copd_var hx
      rw [opd_var] at hv
      have hno : ∀ j ∈ pre, dstAt ops j ≠ some t := fun j hj hjt => by
        by_cases hji : j = i
        · subst hji; exact A.fresh hj
        · exact A.fresh (S.closed j hj i (A.var t hy j hjt hji))
      refine .inr ⟨(S.varsR t v hv).2.2 fun j hj _ => hno j hj, fun t' ht' k hk hki hkt => ?_⟩
      cases ht'
      exact A.var t hy k hkt hki
    | cst c =>
      rw [opd_cst] at hv
      cases hv
      obtain ⟨h1, h2⟩ := copd_cst hx
      exact .inr ⟨h2 φ tmps, fun t ht => absurd ht (h1 t)⟩
  · obtain ⟨j', h3, h4⟩ := A.gloc q b hg
    rw [hj] at h3; cases h3
    exact hloc q t j v hj hjt h4 hv

theorem OpdOK.more {i : Nat} {v : AV} {j : Nat} {x : Operand} {a : AV} (H : OpdOK ops bef φ pre rest vals tmps j x a) (hi : i ∉ pre) : OpdOK ops bef φ (i :: pre) rest (put vals i v) tmps j x a := by
  rcases H with ⟨t, k, h1, h2, h3, h4, h5, h6⟩ | H
  · exact .inl ⟨t, k, h1, by simp [h2], h3, h4, by rw [put_ne (by rintro rfl; exact hi h2)]; exact h5, h6⟩
  · exact .inr H
theorem GuardOK.more {i : Nat} {v : AV} {j : Nat} {g : Option (Nat × Bool)} {r : Bool} (H : GuardOK ops bef φ pre rest vals tmps j g r) (hi : i ∉ pre) : GuardOK ops bef φ (i :: pre) rest (put vals i v) tmps j g r := by
  cases H with
  | none => exact .none
  | some k b t u r ht hv hr => exact .some k b t u r ht (hv.more hi) hr

theorem keepV_get {o : Oper} {v : AV} {t : Tmp} : (keepV (keepT K o.dst) vars v).get (pos t) = if o.dst = some t ∧ K t = true then some v else vars.get (pos t) := by
  cases hd : o.dst with
  | none => simp [keepT, keepV, orE_none]
  | some u =>
    cases hK : K u with
    | false =>
      have : keepT K (some u) = none := by show (bif K u then some (pos u) else none) = none; rw [hK]; rfl
      rw [this, show keepV none vars v = vars from rfl, if_neg]
      rintro ⟨h1, h2⟩; cases h1; rw [hK] at h2; cases h2
    | true =>
      have : keepT K (some u) = some (pos u) := by show (bif K u then some (pos u) else none) = _; rw [hK]; rfl
      rw [this, show keepV (some (pos u)) vars v = vars.set v (pos u) from rfl, T.get_set]
      by_cases hut : u = t
      · subst hut; simp [hK]
      · rw [if_neg (fun he => hut (pos_inj he)), if_neg (by rintro ⟨h1, _⟩; cases h1; exact hut rfl)]
theorem keepV_other {o : Oper} {v : AV} {p : Pos} (hp : ∀ t, o.dst = some t → pos t ≠ p) : (keepV (keepT K o.dst) vars v).get p = vars.get p := by
  cases hd : o.dst with
  | none => rfl
  | some u =>
    cases hK : K u with
    | false => rw [show keepT K (some u) = none by show (bif K u then some (pos u) else none) = none; rw [hK]; rfl]; rfl
    | true =>
      rw [show keepT K (some u) = some (pos u) by show (bif K u then some (pos u) else none) = _; rw [hK]; rfl, show keepV (some (pos u)) vars v = vars.set v (pos u) from rfl, T.get_set, if_neg (hp u hd)]

/-- the machine goes ahead -/
theorem RegS.ahead (S : RegS P K N ops bef φ h pre (i :: left) [] (.op (keepT K o.dst) g a :: is) rest vals vars tmps pd) (U : Once N ops) {v : AV} {r : Bool} (A : At P ops bef pre i left o g a) (hs : Ins P K ops bef (i :: pre) left is)
    (hr : wanted g (pre.map vals) = some r) (hf : r = false → v = .tup [])
    (hst : ∀ qo ρ u, evq qo ρ h = some u → evq qo ρ h' = some u) (hget : ∀ p ob, h.t.get p = some ob → h'.t.get p = some ob) (hpd : ∀ q ∈ pd, q ∈ pd')
    (hnew : r = true → (∃ qo, a = .q qo ∧ evq qo (fun x => Ev.opd x (pre.map vals) vars) h' = some v) ∨ (∃ mo p ob, a = .m mo ∧ evm mo (fun x => Ev.opd x (pre.map vals) vars) p = some (ob, v) ∧ (i, p) ∈ pd' ∧ h'.t.get p = some ob)) :
    RegS P K N ops bef φ h' (i :: pre) left [] is rest (put vals i v) (keepV (keepT K o.dst) vars v) tmps pd' := by
  have hd := dstAt_of A.op
  have hir : i ∈ rest := S.sub i (by simp)
  obtain ⟨ho1, ho2⟩ := S.opd U A
  refine ⟨hs, by simp, fun j hj => S.sub j (by simp [hj]), fun j hj => ?_, S.nodup, ?_, S.lin, fun j hj k hk => ?_, S.size, fun j hj hjr t ht => ?_, fun t u hu => ?_, fun new j pj hp hjr => ?_⟩
  · rcases S.mem j hj with h1 | h1
    · exact .inl (by simp [h1])
    · rcases List.mem_cons.mp h1 with rfl | h1
      · exact .inl (by simp)
      · exact .inr h1
  · have := S.both
    rw [List.nodup_append] at this ⊢
    obtain ⟨h1, h2, h3⟩ := this
    obtain ⟨h4, h5⟩ := List.nodup_cons.mp h2
    refine ⟨List.nodup_cons.mpr ⟨A.fresh, h1⟩, h5, fun x hx y hy => ?_⟩
    rcases List.mem_cons.mp hx with rfl | hx
    · rintro rfl; exact h4 hy
    · exact h3 x hx y (by simp [hy])
  · rcases List.mem_cons.mp hj with rfl | hj
    · exact List.mem_cons_of_mem _ (A.preds k hk)
    · exact List.mem_cons_of_mem _ (S.closed j hj k hk)
  · have hji : j ≠ i := by rintro rfl; exact hjr hir
    have hj : j ∈ pre := by
      rcases List.mem_cons.mp hj with h1 | h1
      · exact absurd h1 hji
      · exact h1
    rw [put_ne hji]; exact S.conc j hj hjr t ht
  · rw [keepV_get] at hu
    by_cases ht : o.dst = some t
    · by_cases hK : K t = true
      · rw [if_pos ⟨ht, hK⟩] at hu
        cases hu
        refine ⟨hK, fun j hj hjr hjt => ?_, fun hno => ?_⟩
        · have := U.uniq j i t hjt (by rw [hd]; exact ht)
          subst this; rw [put_same]
        · exact absurd (by rw [hd]; exact ht) (hno i (by simp) hir)
      · rw [if_neg (by rintro ⟨_, h2⟩; exact hK h2)] at hu
        exact absurd (S.varsR t u hu).1 hK
    · rw [if_neg (by rintro ⟨h1, _⟩; exact ht h1)] at hu
      obtain ⟨h1, h2, h3⟩ := S.varsR t u hu
      refine ⟨h1, fun j hj hjr hjt => ?_, fun hno => h3 fun j hj hjr => hno j (by simp [hj]) hjr⟩
      have hji : j ≠ i := by rintro rfl; rw [hd] at hjt; exact ht hjt
      rw [put_ne hji]
      rcases List.mem_cons.mp hj with h4 | h4
      · exact absurd h4 hji
      · exact h2 j h4 hjr hjt
  · cases new with
    | nil =>
      rw [List.nil_append] at hp
      cases hp
      refine ⟨o, vars, r, A.op, fun p hp => (keepV_other fun t ht => hp i t (by rw [hd]; exact ht)).symm, fun y hy u hu x hx => ?_, ?_, fun hr' => by rw [put_same]; exact hf hr', fun hr' => ?_⟩
      · rw [A.act] at hy
        rw [put_map A.fresh] at hu
        exact (ho1 y hy u hu x hx).more A.fresh
      · have hgrd := A.grd
        cases hgu : o.guard with
        | none =>
          rw [hgu] at hgrd
          cases hgrd
          cases hr
          exact .none
        | some kb =>
          cases g with
          | none =>
            rw [hgu] at hgrd
            unfold Ev.grd at hgrd
            obtain ⟨k, b⟩ := kb
            dsimp only at hgrd
            split at hgrd
            · split at hgrd <;> cases hgrd
            · cases hgrd
          | some qb =>
            obtain ⟨q, b⟩ := qb
            obtain ⟨k, t, h1, h2, k', h3, h4⟩ := grd_loc hgrd
            rw [hgu] at h1
            cases h1
            obtain ⟨u, h5, h6⟩ := ob_inv (o := nth (pre.map vals) q) hr
            rw [nth_eq] at h5
            exact .some k b t u r h2 ((ho2 q b rfl u h5 t ⟨k', h3, h4⟩).more A.fresh) h6
      · rw [put_same, put_map A.fresh, A.act]
        rcases hnew hr' with ⟨qo, h1, h2⟩ | ⟨mo, p, ob, h1, h2, h3, h4⟩
        · exact .inl ⟨qo, h1, .inl h2⟩
        · exact .inr ⟨mo, p, ob, h1, h2, h3, h4⟩
    | cons z new =>
      cases hp
      have hji : j ≠ i := by
        intro he
        exact A.fresh (by simp [he])
      have hfr : i ∉ pj := fun hz => A.fresh (by simp [hz])
      obtain ⟨o', vs, r', c1, c2, c3, c4, c5, c6⟩ := S.cert new j pj rfl hjr
      refine ⟨o', vs, r', c1, fun p hp => ?_, fun y hy u hu x hx => ?_, c4.more A.fresh, fun hr' => by rw [put_ne hji]; exact c5 hr', fun hr' => ?_⟩
      · rw [keepV_other fun t ht => hp i t (by rw [hd]; exact ht)]; exact c2 p hp
      · rw [put_map hfr] at hu
        exact (c3 y hy u hu x hx).more A.fresh
      · rw [put_ne hji, put_map hfr]
        rcases c6 hr' with ⟨qo, h1, h2 | ⟨_, h2, _⟩⟩ | ⟨mo, p, ob, h1, h2, h3, h4⟩
        · exact .inl ⟨qo, h1, .inl (hst _ _ _ h2)⟩
        · cases h2
        · exact .inr ⟨mo, p, ob, h1, h2, hpd _ h3, hget _ _ h4⟩
end

end Go.Ev
/-
  A small machine over closed data, forty-one: the model catches up in a region.
-/
namespace Go.Ev

noncomputable def putT (tmps : Array Value) (t : Option Tmp) (v : Value) : Array Value := match t with
  | some d => tmps.setIfInBounds d v
  | none => tmps
theorem putT_size (tmps : Array Value) (t : Option Tmp) (v : Value) : (putT tmps t v).size = tmps.size := by cases t <;> simp [putT]
theorem putT_same {tmps : Array Value} {t : Tmp} {v : Value} (h : t < tmps.size) : (putT tmps (some t) v).getD t undef = v := by
  simp [putT, Array.getD_eq_getD_getElem?, h]
theorem putT_other {tmps : Array Value} {d : Option Tmp} {t : Tmp} {v : Value} (h : d ≠ some t) : (putT tmps d v).getD t undef = tmps.getD t undef := by
  cases d with
  | none => rfl
  | some u =>
    have : u ≠ t := fun he => h (by rw [he])
    simp [putT, Array.getD_eq_getD_getElem?, Array.getElem?_setIfInBounds_ne this]

theorem cop_q {P : Program} {env : List (Option Tmp)} {o : Oper} {qo : QOp} (h : cop P env o = .q qo) : cop? P env o = some (.q qo) := by
  unfold cop at h
  split at h
  · rename_i a ha; rw [ha, h]
  · cases h
theorem cop_m {P : Program} {env : List (Option Tmp)} {o : Oper} {mo : MOp} (h : cop P env o = .m mo) : cop? P env o = some (.m mo) := by
  unfold cop at h
  split at h
  · rename_i a ha; rw [ha, h]
  · cases h
theorem cop_w {P : Program} {env : List (Option Tmp)} {o : Oper} {wo : WOp} (h : cop P env o = .w wo) (hb : wo ≠ .bad) : cop? P env o = some (.w wo) := by
  unfold cop at h
  split at h
  · rename_i a ha; rw [ha, h]
  · cases h; exact absurd rfl hb

section
variable {P : Program} {K : Nat → Bool} {N : Nat} {ops : Array Oper} {bef : Nat → Nat → Prop}
variable {φ φ' : Map} {h h' : AHeap} {w : World} {D : Pos → Prop} {pre left : List Nat} {cs is : List AIns} {rest : List Nat} {vals : Nat → AV} {vars : T AV} {tmps : Array Value} {pd pd' : List (Nat × Pos)}

/-- an operand's value, where an operation reads it -/
noncomputable def only (l : List Opd) (ρ : Opd → Option AV) (y : Opd) : Option AV := by
  classical
  exact match y with
    | .cst v => some v
    | y => if y ∈ l then ρ y else none
theorem only_cst (l : List Opd) (ρ : Opd → Option AV) (v : AV) : only l ρ (.cst v) = some v := rfl
theorem only_mem {l : List Opd} {ρ : Opd → Option AV} (hc : ∀ v, ρ (.cst v) = some v) {y : Opd} (h : y ∈ l) : only l ρ y = ρ y := by
  cases y with
  | cst v => rw [only_cst, hc]
  | loc q => simp [only, h]
  | var p => simp [only, h]
theorem only_inv {l : List Opd} {ρ : Opd → Option AV} {y : Opd} {a : AV} (h : only l ρ y = some a) : (∃ v, y = .cst v ∧ a = v) ∨ (y ∈ l ∧ ρ y = some a) := by
  cases y with
  | cst v => rw [only_cst] at h; cases h; exact .inl ⟨_, rfl, rfl⟩
  | loc q =>
    right
    simp only [only] at h
    split at h
    · rename_i hm; exact ⟨hm, h⟩
    · cases h
  | var p =>
    right
    simp only [only] at h
    split at h
    · rename_i hm; exact ⟨hm, h⟩
    · cases h

/-- what looked into memory is looked at again -/
theorem RegS.check {qo : QOp} {k : Nat} {v u : AV} (S : RegS P K N ops bef φ h pre left (.chk qo k :: cs) is rest vals vars tmps pd) (he : evq qo (fun x => Ev.opd x (dr (Nat.succ k) (pre.map vals)) vars) h = some v)
    (hw : nth (pre.map vals) k = some u) (hs : same 20 v u = true) : RegS P K N ops bef φ h pre left cs is rest vals vars tmps pd := by
  refine ⟨S.ins, fun c hc => S.chk c (by simp [hc]), S.sub, S.mem, S.nodup, S.both, S.lin, S.closed, S.size, S.conc, S.varsR, fun new j pj hp hj => ?_⟩
  obtain ⟨o, vs, r, c1, c2, c3, c4, c5, c6⟩ := S.cert new j pj hp hj
  refine ⟨o, vs, r, c1, c2, c3, c4, c5, fun hr => ?_⟩
  rcases c6 hr with ⟨qo', h1, h2 | ⟨h2, h3, h4⟩⟩ | h1
  · exact .inl ⟨qo', h1, .inl h2⟩
  · rcases List.mem_cons.mp h3 with h5 | h5
    · cases h5
      refine .inl ⟨_, h1, .inl ?_⟩
      have e1 : dr (Nat.succ new.length) (pre.map vals) = pj.map vals := by
        rw [dr_eq, hp, List.map_append, List.map_cons]
        rw [List.drop_append, List.drop_eq_nil_of_le (by simp)]
        simp
      have e2 : nth (pre.map vals) new.length = some (vals j) := by
        rw [nth_eq, hp]; simp
      rw [e2] at hw
      cases hw
      rw [e1] at he
      have := same_eq 20 v (vals j) hs
      subst this
      rw [← he]
      refine evq_congr fun y hy => ?_
      cases y with
      | loc q => rfl
      | var p => exact c2 p (h4 p hy)
      | cst c => rfl
    · exact .inl ⟨qo', h1, .inr ⟨h2, h5, h4⟩⟩
  · exact .inr h1

theorem OpdOK.did {i j : Nat} {o : Oper} {u : Value} {x : Operand} {a : AV} (H : OpdOK ops bef φ pre (i :: rest) vals tmps j x a) (hl : Lin bef (i :: rest)) (hn : (i :: rest).Nodup) (hj : j ∈ rest) (U : Once N ops) (hle : φ.le φ') (hsz : N ≤ tmps.size)
    (ho : ops[i]? = some o) (hv : i ∈ pre → VR φ' (vals i) u) : OpdOK ops bef φ' pre rest vals (putT tmps o.dst u) j x a := by
  have hd := dstAt_of ho
  have hir : i ∉ rest := (List.nodup_cons.mp hn).1
  have hji : j ≠ i := by rintro rfl; exact hir hj
  rcases H with ⟨t, k, h1, h2, h3, h4, h5, h6⟩ | ⟨h1, h2⟩
  · rcases List.mem_cons.mp h3 with rfl | h3
    · subst h1
      have hdt : o.dst = some t := by rw [← hd]; exact h4
      refine .inr ⟨?_, fun t' ht' k' hk' _ hkt => ?_⟩
      · show VR φ' a ((putT tmps o.dst u).getD t undef)
        rw [hdt, putT_same (Nat.lt_of_lt_of_le (U.room k t h4) hsz), ← h5]
        exact hv h2
      · cases ht'
        have := U.uniq k' k t hkt h4
        subst this
        exact absurd hk' hir
    · exact .inl ⟨t, k, h1, h2, h3, h4, h5, h6⟩
  · refine .inr ⟨?_, fun t ht k hk hkj hkt => h2 t ht k (by simp [hk]) hkj hkt⟩
    cases x with
    | tmp t =>
      show VR φ' a ((putT tmps o.dst u).getD t undef)
      rw [putT_other]
      · exact h1.mono hle
      · intro hdt
        have hb := h2 t rfl i (by simp) (Ne.symm hji) (by rw [hd]; exact hdt)
        exact hl.head hb (by simp [hj])
    | _ => exact h1.mono hle
theorem GuardOK.did {i j : Nat} {o : Oper} {u : Value} {g : Option (Nat × Bool)} {r : Bool} (H : GuardOK ops bef φ pre (i :: rest) vals tmps j g r) (hl : Lin bef (i :: rest)) (hn : (i :: rest).Nodup) (hj : j ∈ rest) (U : Once N ops) (hle : φ.le φ') (hsz : N ≤ tmps.size)
    (ho : ops[i]? = Option.some o) (hv : i ∈ pre → VR φ' (vals i) u) : GuardOK ops bef φ' pre rest vals (putT tmps o.dst u) j g r := by
  cases H with
  | none => exact .none
  | some k b t v r ht hg hr => exact .some k b t v r ht (hg.did hl hn hj U hle hsz ho hv) hr

/-- the model has done what the machine has done already -/
theorem RegS.did {i : Nat} {o : Oper} {u : Value} (S : RegS P K N ops bef φ h pre left [] is (i :: rest) vals vars tmps pd) (U : Once N ops) (hi : i ∈ pre) (ho : ops[i]? = some o) (hle : φ.le φ') (hv : VR φ' (vals i) u) (hpd : ∀ q ∈ pd, q.1 ≠ i → q ∈ pd') :
    RegS P K N ops bef φ' h pre left [] is rest vals vars (putT tmps o.dst u) pd' := by
  have hd := dstAt_of ho
  have hn := S.nodup
  have hir : i ∉ rest := (List.nodup_cons.mp hn).1
  refine ⟨S.ins, S.chk, fun j hj => ?_, fun j hj => S.mem j (by simp [hj]), (List.nodup_cons.mp hn).2, S.both, S.lin.tail hn, S.closed, by rw [putT_size]; exact S.size, fun j hj hjr t ht => ?_, fun t v hv' => ?_, fun new j pj hp hj => ?_⟩
  · rcases List.mem_cons.mp (S.sub j hj) with rfl | h1
    · have := (List.nodup_append.mp S.both).2.2 j hi j hj
      exact absurd rfl this
    · exact h1
  · by_cases hji : j = i
    · subst hji
      rw [show o.dst = some t by rw [← hd]; exact ht, putT_same (Nat.lt_of_lt_of_le (U.room j t ht) S.size)]
      exact hv
    · rw [putT_other (fun he => hji (U.uniq j i t ht (by rw [hd]; exact he)))]
      exact (S.conc j hj (by simp [hji, hjr]) t ht).mono hle
  · obtain ⟨h1, h2, h3⟩ := S.varsR t v hv'
    refine ⟨h1, fun j hj hjr hjt => h2 j hj (by simp [hjr]) hjt, fun hno => ?_⟩
    by_cases ht : o.dst = some t
    · rw [ht, putT_same (Nat.lt_of_lt_of_le (U.room i t (by rw [hd]; exact ht)) S.size)]
      have := h2 i hi (by simp) (by rw [hd]; exact ht)
      rw [this]; exact hv
    · rw [putT_other ht]
      refine (h3 fun j hj hjr => ?_).mono hle
      rcases List.mem_cons.mp hjr with rfl | hjr
      · rw [hd]; exact ht
      · exact hno j hj hjr
  · have hji : j ≠ i := by rintro rfl; exact hir hj
    obtain ⟨o', vs, r, c1, c2, c3, c4, c5, c6⟩ := S.cert new j pj hp (by simp [hj])
    refine ⟨o', vs, r, c1, c2, fun y hy a ha x hx => (c3 y hy a ha x hx).did S.lin hn hj U hle S.size ho (fun _ => hv), c4.did S.lin hn hj U hle S.size ho (fun _ => hv), c5, fun hr => ?_⟩
    rcases c6 hr with h1 | ⟨mo, p, ob, h1, h2, h3, h4⟩
    · exact .inl h1
    · exact .inr ⟨mo, p, ob, h1, h2, hpd _ h3 hji, h4⟩

/-- both do an operation that writes -/
theorem RegS.wrote {i : Nat} {o : Oper} {g : Option (Nat × Bool)} {a : AOp} {v : AV} {u : Value} {is0 : List AIns} (S : RegS P K N ops bef φ h pre (i :: left) [] is0 (i :: rest) vals vars tmps pd) (U : Once N ops) (A : At P ops bef pre i left o g a)
    (G : Again P ops bef pre i cs) (hs : Ins P K ops bef (i :: pre) left is) (hle : φ.le φ') (hv : VR φ' v u) (hget : ∀ q ∈ pd, ∀ ob, h.t.get q.2 = some ob → h'.t.get q.2 = some ob) :
    RegS P K N ops bef φ' h' (i :: pre) left cs is rest (put vals i v) (keepV (keepT K o.dst) vars v) (putT tmps o.dst u) pd := by
  have hd := dstAt_of A.op
  have hn := S.nodup
  have hir : i ∉ rest := (List.nodup_cons.mp hn).1
  refine ⟨hs, G.only, fun j hj => ?_, fun j hj => ?_, (List.nodup_cons.mp hn).2, ?_, S.lin.tail hn, fun j hj k hk => ?_, by rw [putT_size]; exact S.size, fun j hj hjr t ht => ?_, fun t z hz => ?_, fun new j pj hp hj => ?_⟩
  · rcases List.mem_cons.mp (S.sub j (by simp [hj])) with rfl | h1
    · have := (List.nodup_cons.mp (List.nodup_append.mp S.both).2.1).1
      exact absurd hj this
    · exact h1
  · rcases S.mem j (by simp [hj]) with h1 | h1
    · exact .inl (by simp [h1])
    · rcases List.mem_cons.mp h1 with rfl | h1
      · exact .inl (by simp)
      · exact .inr h1
  · have := S.both
    rw [List.nodup_append] at this ⊢
    obtain ⟨h1, h2, h3⟩ := this
    obtain ⟨h4, h5⟩ := List.nodup_cons.mp h2
    refine ⟨List.nodup_cons.mpr ⟨A.fresh, h1⟩, h5, fun x hx y hy => ?_⟩
    rcases List.mem_cons.mp hx with rfl | hx
    · rintro rfl; exact h4 hy
    · exact h3 x hx y (by simp [hy])
  · rcases List.mem_cons.mp hj with rfl | hj
    · exact List.mem_cons_of_mem _ (A.preds k hk)
    · exact List.mem_cons_of_mem _ (S.closed j hj k hk)
  · by_cases hji : j = i
    · subst hji
      rw [show o.dst = some t by rw [← hd]; exact ht, putT_same (Nat.lt_of_lt_of_le (U.room j t ht) S.size), put_same]
      exact hv
    · rw [putT_other (fun he => hji (U.uniq j i t ht (by rw [hd]; exact he))), put_ne hji]
      have hj : j ∈ pre := by
        rcases List.mem_cons.mp hj with h1 | h1
        · exact absurd h1 hji
        · exact h1
      exact (S.conc j hj (by simp [hji, hjr]) t ht).mono hle
  · rw [keepV_get] at hz
    by_cases ht : o.dst = some t
    · by_cases hK : K t = true
      · rw [if_pos ⟨ht, hK⟩] at hz
        cases hz
        refine ⟨hK, fun j hj hjr hjt => ?_, fun _ => ?_⟩
        · have := U.uniq j i t hjt (by rw [hd]; exact ht)
          subst this
          exact absurd hjr hir
        · rw [ht, putT_same (Nat.lt_of_lt_of_le (U.room i t (by rw [hd]; exact ht)) S.size)]
          exact hv
      · rw [if_neg (by rintro ⟨_, h2⟩; exact hK h2)] at hz
        exact absurd (S.varsR t z hz).1 hK
    · rw [if_neg (by rintro ⟨h1, _⟩; exact ht h1)] at hz
      obtain ⟨h1, h2, h3⟩ := S.varsR t z hz
      refine ⟨h1, fun j hj hjr hjt => ?_, fun hno => ?_⟩
      · have hji : j ≠ i := by rintro rfl; exact hir hjr
        rw [put_ne hji]
        rcases List.mem_cons.mp hj with h4 | h4
        · exact absurd h4 hji
        · exact h2 j h4 (by simp [hjr]) hjt
      · rw [putT_other ht]
        refine (h3 fun j hj hjr => ?_).mono hle
        rcases List.mem_cons.mp hjr with rfl | hjr
        · exact absurd hj A.fresh
        · exact hno j (by simp [hj]) hjr
  · have hji : j ≠ i := by rintro rfl; exact hir hj
    cases new with
    | nil =>
      rw [List.nil_append] at hp
      cases hp
      exact absurd rfl hji
    | cons z new =>
      cases hp
      have hfr : i ∉ pj := fun hz => A.fresh (by simp [hz])
      obtain ⟨o', vs, r, c1, c2, c3, c4, c5, c6⟩ := S.cert new j pj rfl (by simp [hj])
      have hnv : i ∈ new ++ j :: pj → VR φ' (vals i) u := fun hi => absurd hi A.fresh
      refine ⟨o', vs, r, c1, fun p hp => ?_, fun y hy b hb x hx => ?_, (c4.did S.lin hn hj U hle S.size A.op hnv).more A.fresh, fun hr => by rw [put_ne hji]; exact c5 hr, fun hr => ?_⟩
      · rw [keepV_other fun t ht => hp i t (by rw [hd]; exact ht)]; exact c2 p hp
      · rw [put_map hfr] at hb
        exact ((c3 y hy b hb x hx).did S.lin hn hj U hle S.size A.op hnv).more A.fresh
      · rw [put_ne hji, put_map hfr]
        rcases c6 hr with ⟨qo, h1, h2 | ⟨_, h2, _⟩⟩ | ⟨mo, p, ob, h1, h2, h3, h4⟩
        · cases hq : heapQ qo with
          | false => exact .inl ⟨qo, h1, .inl (by rw [evq_calm hq (h' := h)]; exact h2)⟩
          | true =>
            obtain ⟨k1, k2⟩ := G.all new j pj o' qo rfl c1 h1 hq (fun hb => S.lin.head hb (by simp [hj]))
            exact .inl ⟨qo, h1, .inr ⟨hq, k1, k2⟩⟩
        · cases h2
        · exact .inr ⟨mo, p, ob, h1, h2, h3, hget _ h3 _ h4⟩
end

end Go.Ev
/-
  A small machine over closed data, forty-two: the model runs what the machine has done, and both what writes.
-/
namespace Go.Ev

section
variable {P : Program} {K : Nat → Bool} {N : Nat} {ops : Array Oper} {bef : Nat → Nat → Prop}
variable {φ φ' : Map} {h h' : AHeap} {w : World} {D : Pos → Prop} {pre left : List Nat} {cs is : List AIns} {rest : List Nat} {vals : Nat → AV} {vars : T AV} {tmps : Array Value} {pd pd' : List (Nat × Pos)}

theorem opd_only {l : List Opd} {env : List (Option Tmp)} {loc : List AV} {vs : T AV} (H : ∀ y ∈ l, ∀ a, Ev.opd y loc vs = some a → ∀ x, copd env x = some y → VR φ a (evT tmps x)) : OpdR φ env (only l (fun x => Ev.opd x loc vs)) (evT tmps) := by
  intro x y a hx ha
  rcases only_inv ha with ⟨v, rfl, rfl⟩ | ⟨h1, h2⟩
  · exact (copd_cst hx).2 φ tmps
  · exact H y h1 a h2 x hx
theorem only_all {l : List Opd} {loc : List AV} {vs : T AV} : ∀ y ∈ l, Ev.opd y loc vs = only l (fun x => Ev.opd x loc vs) y := fun y hy => (only_mem (ρ := fun x => Ev.opd x loc vs) (fun v => rfl) hy).symm
theorem Held.mem {i : Nat} {p : Pos} (H : Held φ h D pd) (hp : (i, p) ∈ pd) {L : Loc} : Held (φ.put p L) h D (pd.erase (i, p)) := by
  have hsub : (pd.erase (i, p)).Sublist pd := List.erase_sublist
  refine ⟨fun q hq => ?_, (hsub.map _).nodup H.nodup, fun q hq => H.far q (hsub.subset hq)⟩
  obtain ⟨h1, h2⟩ := H.held q (hsub.subset hq)
  refine ⟨?_, h2⟩
  rw [φ.put_other L]
  · exact h1
  · rintro rfl
    obtain ⟨a, b, hab⟩ := List.append_of_mem hp
    have hn := H.nodup
    rw [hab, List.map_append, List.map_cons, List.nodup_append] at hn
    obtain ⟨n1, n2, n3⟩ := hn
    by_cases hqe : q = (i, q.2)
    · rw [hqe] at hq
      have : (i, q.2) ∈ a ++ b := by
        have hcount : (pd.erase (i, q.2)).Perm (a ++ b) := by
          rw [hab]
          have := List.perm_middle (a := (i, q.2)) (l₁ := a) (l₂ := b)
          have := this.erase (i, q.2)
          rw [List.erase_cons_head] at this
          exact this
        exact hcount.mem_iff.mp hq
      rcases List.mem_append.mp this with h3 | h3
      · exact n3 q.2 (List.mem_map.mpr ⟨_, h3, rfl⟩) q.2 (by simp) rfl
      · exact (List.nodup_cons.mp n2).1 (List.mem_map.mpr ⟨_, h3, rfl⟩)
    · have : q ∈ a ++ b := by
        have hq2 := hsub.subset hq
        rw [hab] at hq2
        rcases List.mem_append.mp hq2 with h3 | h3
        · simp [h3]
        · rcases List.mem_cons.mp h3 with h4 | h4
          · exact absurd h4 hqe
          · simp [h4]
      rcases List.mem_append.mp this with h3 | h3
      · exact n3 q.2 (List.mem_map.mpr ⟨_, h3, rfl⟩) q.2 (by simp) rfl
      · exact (List.nodup_cons.mp n2).1 (List.mem_map.mpr ⟨_, h3, rfl⟩)

noncomputable def boolOf (x : Value) : Option Bool := match x with | .bool b => some b | _ => none
theorem yielded_val {j : Nat} {t : Tmp} (ht : dstAt ops j = some t) (hs : t < tmps.size) : yielded ops tmps j = boolOf (tmps.getD t undef) := by
  unfold yielded
  rw [show (ops[j]?).bind (·.dst) = some t from ht]
  show (match tmps[t]? with | some (.bool b) => some b | _ => none) = _
  rw [Array.getD_eq_getD_getElem?, Array.getElem?_eq_getElem hs]
  show _ = boolOf tmps[t]
  cases tmps[t] <;> rfl
theorem wantedV_run {v : AV} {b r : Bool} {x : Value} (hr : wantedV v b = some r) (hx : VR φ v x) : (boolOf x == some b) = r := by
  cases v with
  | bool c =>
    cases hx
    cases (show some (bi b c (not c)) = some r from hr)
    cases b <;> cases c <;> rfl
  | tup l =>
    obtain ⟨h1, h2⟩ := gd_inv (b := isUndef (.tup l)) (show gd (isUndef (.tup l)) (some false) = some r from hr)
    cases h2
    cases hx
    rfl
  | _ => cases hr
/-- whether an operation is wanted -/
theorem GuardOK.run {i : Nat} {o : Oper} {r : Bool} (H : GuardOK ops bef φ pre (i :: rest) vals tmps i o.guard r) (hl : Lin bef (i :: rest)) (U : Once N ops) (hsz : N ≤ tmps.size) : Region.wanted o (yielded ops tmps) = r := by
  unfold Region.wanted
  generalize hg : o.guard = g at H
  cases H with
  | none => rfl
  | some k b t v r ht hv hr =>
    rcases hv with ⟨t', k', h1, h2, h3, h4, h5, h6⟩ | ⟨h1, h2⟩
    · exact absurd h3 (hl.head h6)
    · show (yielded ops tmps k == Option.some b) = r
      rw [yielded_val ht (Nat.lt_of_lt_of_le (U.room k t ht) hsz)]
      exact wantedV_run hr h1

theorem cop_defer {env : List (Option Tmp)} {o : Oper} {c : Call} {a : AOp} (ho : o.op = .defer c) (h : cop? P env o = some a) : ∃ wo, a = .w wo := by
  unfold cop? at h
  rw [ho] at h
  dsimp only at h
  split at h
  · split at h
    · cases h; exact ⟨_, rfl⟩
    · cases h
  · cases h
/-- the model runs what the machine has done -/
theorem RegS.catch {i : Nat} (S : RegS P K N ops bef φ h pre left [] is (i :: rest) vals vars tmps pd) (U : Once N ops) (hi : i ∈ pre) (R : Rep P φ h w) (HD : Held φ h D pd) :
    ∃ o u φ' w' pd', ops[i]? = some o ∧ ((Region.wanted o (yielded ops tmps) = false ∧ u = undef ∧ w' = w) ∨ (Region.wanted o (yielded ops tmps) = true ∧ (∀ c, o.op ≠ .defer c) ∧ (execOp (evT tmps) o).run P w = .ok (.value u) w')) ∧
      RegS P K N ops bef φ' h pre left [] is rest vals vars (putT tmps o.dst u) pd' ∧ Rep P φ' h w' ∧ Grows D φ φ' h h w w' ∧ Held φ' h D pd' := by
  obtain ⟨new, pj, hp⟩ := List.append_of_mem hi
  obtain ⟨o, vs, r, c1, c2, c3, c4, c5, c6⟩ := S.cert new i pj hp (by simp)
  have hg := c4.run S.lin U S.size
  have H : OpdR φ (envOf ops pj) (only (aopds (cop P (envOf ops pj) o)) (fun x => Ev.opd x (pj.map vals) vs)) (evT tmps) := opd_only fun y hy a ha x hx => by
    rcases c3 y hy a ha x hx with ⟨t, k, h1, h2, h3, h4, h5, h6⟩ | ⟨h1, h2⟩
    · exact absurd h3 (S.lin.head h6)
    · exact h1
  cases r with
  | false =>
    refine ⟨o, undef, φ, w, pd, c1, .inl ⟨hg, rfl, rfl⟩, S.did U hi c1 φ.le_refl ?_ fun q hq _ => hq, R, Grows.refl D φ h w, HD⟩
    rw [c5 rfl]; exact .tup [] #[] .nil
  | true =>
    rcases c6 rfl with ⟨qo, h1, h2 | ⟨_, h2, _⟩⟩ | ⟨mo, p, ob, h1, h2, h3, h4⟩
    · rw [h1] at H
      have he := h2
      rw [evq_congr (σ := only (qopds qo) (fun x => Ev.opd x (pj.map vals) vs)) only_all] at he
      obtain ⟨u, g1, g2⟩ := evq_sound R H (fun v => rfl) (cop_q h1) he
      exact ⟨o, u, φ, w, pd, c1, .inr ⟨hg, fun c hc => (by obtain ⟨wo, he⟩ := cop_defer hc (cop_q h1); cases he), g1⟩, S.did U hi c1 φ.le_refl g2 fun q hq _ => hq, R, Grows.refl D φ h w, HD⟩
    · cases h2
    · rw [h1] at H
      have he := h2
      rw [evm_congr (σ := only (mopds mo) (fun x => Ev.opd x (pj.map vals) vs)) only_all] at he
      obtain ⟨x, u, csz, g1, g2, g3, g4⟩ := evm_sound (P := P) (w := w) H (fun v => rfl) (cop_m h1) he
      obtain ⟨hn, ob', k1, k2, k3⟩ := HD.held _ h3
      have hle := φ.le_put p ⟨w.heap.size, 0, csz⟩ hn
      obtain ⟨g5, g6⟩ := g4 _ hle (φ.put_same p _)
      refine ⟨o, u, φ.put p ⟨w.heap.size, 0, csz⟩, { w with heap := w.heap.push x }, pd.erase (i, p), c1, .inr ⟨hg, fun c hc => (by obtain ⟨wo, he⟩ := cop_defer hc (cop_m h1); cases he), g1⟩, S.did U hi c1 hle g6 fun q hq hne => (List.mem_erase_of_ne (by rintro rfl; exact hne rfl)).mpr hq,
        R.realize h4 hn g3 rfl g5 rfl, Grows.realize hn rfl rfl rfl rfl rfl (HD.far _ h3), HD.mem h3⟩

/-- the operands of what both do -/
theorem RegS.opdR {i : Nat} {left' : List Nat} {o : Oper} {g : Option (Nat × Bool)} {a : AOp} (S : RegS P K N ops bef φ h pre left cs is (i :: rest) vals vars tmps pd) (U : Once N ops) (A : At P ops bef pre i left' o g a) :
    OpdR φ (envOf ops pre) (only (aopds a) (fun x => Ev.opd x (pre.map vals) vars)) (evT tmps) := opd_only fun y hy v hv x hx => by
  rcases (S.opd U A).1 y hy v hv x hx with ⟨t, k, h1, h2, h3, h4, h5, h6⟩ | ⟨h1, h2⟩
  · exact absurd h3 (S.lin.head h6)
  · exact h1
theorem RegS.guard {i : Nat} {left' : List Nat} {o : Oper} {g : Option (Nat × Bool)} {a : AOp} {r : Bool} (S : RegS P K N ops bef φ h pre left cs is (i :: rest) vals vars tmps pd) (U : Once N ops) (A : At P ops bef pre i left' o g a)
    (hr : wanted g (pre.map vals) = some r) : Region.wanted o (yielded ops tmps) = r := by
  obtain ⟨_, ho2⟩ := S.opd U A
  have hgrd := A.grd
  unfold Region.wanted
  cases hgu : o.guard with
  | none =>
    rw [hgu] at hgrd
    cases hgrd
    cases hr
    rfl
  | some kb =>
    cases g with
    | none =>
      rw [hgu] at hgrd
      unfold Ev.grd at hgrd
      obtain ⟨k, b⟩ := kb
      dsimp only at hgrd
      split at hgrd
      · split at hgrd <;> cases hgrd
      · cases hgrd
    | some qb =>
      obtain ⟨q, b⟩ := qb
      obtain ⟨k, t, h1, h2, k', h3, h4⟩ := grd_loc hgrd
      rw [hgu] at h1
      cases h1
      obtain ⟨u, h5, h6⟩ := ob_inv (o := nth (pre.map vals) q) hr
      rw [nth_eq] at h5
      rcases ho2 q b rfl u h5 t ⟨k', h3, h4⟩ with ⟨t', k'', g1, g2, g3, g4, g5, g6⟩ | ⟨g1, g2⟩
      · exact absurd g3 (S.lin.head g6)
      · show (yielded ops tmps k == some b) = r
        rw [yielded_val h2 (Nat.lt_of_lt_of_le (U.room k t h2) S.size)]
        exact wantedV_run h6 g1
end

end Go.Ev
/-
  A small machine over closed data, forty-three: the model's steps, for frames of every kind.
-/
namespace Go.Ev

section
variable {P : Program} {fn : FuncId} {tmps : Array Value} {ds : List Deferred} {kind : CallKind} {ro : Option Nat} {k k' : List Item} {cs : List Frame} {w w' : World}

theorem frame_eval {todo : List Item} {m : FrameMode} : (⟨fn, tmps, todo, ds, m, kind, ro⟩ : Frame).eval = evT tmps := by
  funext x; cases x <;> rfl

theorem s_skip : Go.step P (lone ⟨fn, tmps, .code .skip :: k, ds, .run, kind, ro⟩ cs w) = .next (lone ⟨fn, tmps, k, ds, .run, kind, ro⟩ cs w) :=
  step_lone_go (by simp [stepG, stepG.exec])
theorem s_label {l : Nat} : Go.step P (lone ⟨fn, tmps, .code (.label l) :: k, ds, .run, kind, ro⟩ cs w) = .next (lone ⟨fn, tmps, k, ds, .run, kind, ro⟩ cs w) :=
  step_lone_go (by simp [stepG, stepG.exec])
theorem s_inBlock {id : Nat} : Go.step P (lone ⟨fn, tmps, .inBlock id :: k, ds, .run, kind, ro⟩ cs w) = .next (lone ⟨fn, tmps, k, ds, .run, kind, ro⟩ cs w) :=
  step_lone_go (by simp [stepG, stepG.exec])
theorem s_seq {x y : Code} : Go.step P (lone ⟨fn, tmps, .code (.seq x y) :: k, ds, .run, kind, ro⟩ cs w) = .next (lone ⟨fn, tmps, .code x :: .code y :: k, ds, .run, kind, ro⟩ cs w) :=
  step_lone_go (by simp [stepG, stepG.exec])
theorem s_cond {c : Operand} {x y : Code} {t : Bool} (h : evT tmps c = .bool t) :
    Go.step P (lone ⟨fn, tmps, .code (.cond c x y) :: k, ds, .run, kind, ro⟩ cs w) = .next (lone ⟨fn, tmps, .code (if t then x else y) :: k, ds, .run, kind, ro⟩ cs w) :=
  step_lone_go (by simp [stepG, stepG.exec, frame_eval, h])
theorem s_block {id : Nat} {c : Code} : Go.step P (lone ⟨fn, tmps, .code (.block id c) :: k, ds, .run, kind, ro⟩ cs w) = .next (lone ⟨fn, tmps, .code c :: .inBlock id :: k, ds, .run, kind, ro⟩ cs w) :=
  step_lone_go (by simp [stepG, stepG.exec])
theorem s_loop {c : Code} : Go.step P (lone ⟨fn, tmps, .code (.loop c) :: k, ds, .run, kind, ro⟩ cs w) = .next (lone ⟨fn, tmps, .code c :: .inLoop c :: k, ds, .run, kind, ro⟩ cs w) :=
  step_lone_go (by simp [stepG, stepG.exec])
theorem s_inLoop {c : Code} : Go.step P (lone ⟨fn, tmps, .inLoop c :: k, ds, .run, kind, ro⟩ cs w) = .next (lone ⟨fn, tmps, .code c :: .inLoop c :: k, ds, .run, kind, ro⟩ cs w) :=
  step_lone_go (by simp [stepG, stepG.exec])
theorem s_exit {id : Nat} (h : exitTo id k = some k') : Go.step P (lone ⟨fn, tmps, .code (.exit id) :: k, ds, .run, kind, ro⟩ cs w) = .next (lone ⟨fn, tmps, k', ds, .run, kind, ro⟩ cs w) :=
  step_lone_go (by simp [stepG, stepG.exec, h])
theorem s_ret : Go.step P (lone ⟨fn, tmps, .code .ret :: k, ds, .run, kind, none⟩ cs w) = .next (lone ⟨fn, tmps, .code .ret :: k, ds, .returning, kind, none⟩ cs w) :=
  step_lone_go (by simp [stepG, stepG.exec])
theorem s_end : Go.step P (lone ⟨fn, tmps, [], ds, .run, kind, none⟩ cs w) = .next (lone ⟨fn, tmps, [], ds, .returning, kind, none⟩ cs w) :=
  step_lone_go (by simp [stepG, stepG.exec])
theorem s_region {id : Nat} {ops : Array Oper} {draw : Bool} : ∃ l w', Order P ops draw l ∧ (w'.heap = w.heap ∧ w'.os = w.os ∧ w'.tape = w.tape ∧ w'.output = w.output) ∧
    Go.step P (lone ⟨fn, tmps, .code (.region id ops draw) :: k, ds, .run, kind, ro⟩ cs w) = .next (lone ⟨fn, tmps, .inRegion ops l :: k, ds, .run, kind, ro⟩ cs w') := by
  cases draw with
  | false => exact ⟨_, w, .inl ⟨rfl, rfl⟩, ⟨rfl, rfl, rfl, rfl⟩, step_lone_go (by simp [stepG, stepG.exec])⟩
  | true =>
    exact ⟨_, { w with drawn := w.drawn + 1 }, .inr ⟨rfl, w.tape w.drawn (.order fn id), rfl⟩, ⟨rfl, rfl, rfl, rfl⟩, step_lone_go (by simp [stepG, stepG.exec, choose, Sem.run, Question.forced, Question.cut])⟩
theorem s_region_end {ops : Array Oper} : Go.step P (lone ⟨fn, tmps, .inRegion ops [] :: k, ds, .run, kind, ro⟩ cs w) = .next (lone ⟨fn, tmps, k, ds, .run, kind, ro⟩ cs w) :=
  step_lone_go (by simp [stepG, stepG.exec])

variable {ops : Array Oper} {i : Nat} {rest : List Nat} {o : Oper}
theorem finish_op {m : FrameMode} {v : Value} (ho : ops[i]? = some o) : (⟨fn, tmps, .inRegion ops (i :: rest) :: k, ds, m, kind, ro⟩ : Frame).finish v = ⟨fn, putT tmps o.dst v, .inRegion ops rest :: k, ds, m, kind, ro⟩ := by
  simp only [Frame.finish, ho, Option.bind_some]
  cases o.dst <;> rfl
theorem s_unwanted (ho : ops[i]? = some o) (hw : Region.wanted o (yielded ops tmps) = false) :
    Go.step P (lone ⟨fn, tmps, .inRegion ops (i :: rest) :: k, ds, .run, kind, ro⟩ cs w) = .next (lone ⟨fn, putT tmps o.dst undef, .inRegion ops rest :: k, ds, .run, kind, ro⟩ cs w) := by
  rw [← finish_op ho]
  exact step_lone_go (by simp [stepG, stepG.exec, ho, hw])
/-- the step of an operation -/
theorem stepG_oper (ho : ops[i]? = some o) (hw : Region.wanted o (yielded ops tmps) = true) (hd : ro = none ∨ ∀ c, o.op ≠ .defer c) :
    stepG P true { frame := ⟨fn, tmps, .inRegion ops (i :: rest) :: k, ds, .run, kind, ro⟩, callers := cs, status := .running, dying := none } w =
      stepG.apply P true ⟨fn, tmps, .inRegion ops (i :: rest) :: k, ds, .run, kind, ro⟩ cs none (execOp (evT tmps) o) w := by
  cases ro with
  | none => simp [stepG, stepG.exec, stepG.oper, Frame.oper?, ho, hw, frame_eval]
  | some l =>
    rcases hd with h1 | h1
    · cases h1
    · cases hop : o.op <;> first
        | (exact absurd hop (h1 _))
        | simp [stepG, stepG.exec, stepG.oper, Frame.oper?, ho, hw, frame_eval, hop]
theorem s_value {v : Value} (ho : ops[i]? = some o) (hw : Region.wanted o (yielded ops tmps) = true) (hd : ro = none ∨ ∀ c, o.op ≠ .defer c) (hr : (execOp (evT tmps) o).run P w = .ok (.value v) w') :
    Go.step P (lone ⟨fn, tmps, .inRegion ops (i :: rest) :: k, ds, .run, kind, ro⟩ cs w) = .next (lone ⟨fn, putT tmps o.dst v, .inRegion ops rest :: k, ds, .run, kind, ro⟩ cs w') := by
  rw [← finish_op ho]
  exact step_lone_go (by rw [stepG_oper ho hw hd]; simp [stepG.apply, hr])
theorem s_none (ho : ops[i]? = some o) (hw : Region.wanted o (yielded ops tmps) = true) (hd : ro = none ∨ ∀ c, o.op ≠ .defer c) (hr : (execOp (evT tmps) o).run P w = .ok .skip w') :
    Go.step P (lone ⟨fn, tmps, .inRegion ops (i :: rest) :: k, ds, .run, kind, ro⟩ cs w) = .next (lone ⟨fn, putT tmps o.dst undef, .inRegion ops rest :: k, ds, .run, kind, ro⟩ cs w') := by
  rw [← finish_op ho]
  exact step_lone_go (by rw [stepG_oper ho hw hd]; simp [stepG.apply, hr])
end

end Go.Ev
/-
  A small machine over closed data, forty-four: frames.
-/
namespace Go.Ev

inductive ChainR (φ : Map) : List (AV × Bool) → List PanicEntry → Prop where
  | nil : ChainR φ [] []
  | cons (v : AV) (b : Bool) (u : Value) (c : List (AV × Bool)) (d : List PanicEntry) (h : VR φ v u) (hs : ChainR φ c d) : ChainR φ ((v, b) :: c) (⟨u, b, false⟩ :: d)

noncomputable def RoundR (φ : Map) : Option Pos → Option Nat → Prop
  | none, none => True
  | some b, some l => ∃ L, φ b = some L ∧ L.blk = l
  | _, _ => False

section
variable (P : Program) (K : Nat → Bool) (N : Nat)

inductive TodoR (φ : Map) : List AItem → List Item → Prop where
  | nil : TodoR φ [] []
  | code (c : Code) (k : List AItem) (k' : List Item) (h : TodoR φ k k') : TodoR φ (.code (comp P K N c) :: k) (.code c :: k')
  | inBlock (id : Nat) (k : List AItem) (k' : List Item) (h : TodoR φ k k') : TodoR φ (.inBlock id :: k) (.inBlock id :: k')
  | inLoop (c : Code) (k : List AItem) (k' : List Item) (h : TodoR φ k k') : TodoR φ (.inLoop (comp P K N c) :: k) (.inLoop c :: k')
  | inRF (b : Pos) (L : Loc) (k : List AItem) (k' : List Item) (hb : φ b = some L) (h : TodoR φ k k') : TodoR φ (.inRF b :: k) (.inRangeFunc L.blk :: k')
  | endRF (b : Pos) (L : Loc) (k : List AItem) (k' : List Item) (hb : φ b = some L) (h : TodoR φ k k') : TodoR φ (.endRF b :: k) (.endRangeFunc L.blk :: k')
  | begin (k : List AItem) (k' : List Item) (h : TodoR φ k k') : TodoR φ (.begin :: k) (.beginRound :: k')

/-- what stands behind a region -/
inductive TailR (φ : Map) (env : List (Option Tmp)) : List AItem → List Item → Prop where
  | plain (k : List AItem) (k' : List Item) (h : TodoR P K N φ k k') : TailR φ env k k'
  | cnd (x : Opd) (c : Operand) (a b : Code) (k : List AItem) (k' : List Item) (hc : copd env c = some x) (h : TodoR P K N φ k k') : TailR φ env (.cnd x (comp P K N a) (comp P K N b) :: k) (.code (.cond c a b) :: k')

/-- what a frame still does; 's': it waits for a call -/
inductive BodyR (φ : Map) (h : AHeap) (s : Bool) : T AV → List AV → List AItem → Array Value → List Item → List (Nat × Pos) → Prop where
  | plain (vars : T AV) (loc : List AV) (todo : List AItem) (tmps : Array Value) (todo' : List Item) (hv : VarsR K φ vars tmps) (hn : N ≤ tmps.size) (ht : TodoR P K N φ todo todo') : BodyR φ h s vars loc todo tmps todo' []
  | cnd (vars : T AV) (loc : List AV) (x : Opd) (c : Operand) (a b : Code) (k : List AItem) (tmps : Array Value) (k' : List Item) (hv : VarsR K φ vars tmps) (hn : N ≤ tmps.size) (hx : ∀ v, opd x loc vars = some v → VR φ v (evT tmps c)) (ht : TodoR P K N φ k k') :
      BodyR φ h s vars loc (.cnd x (comp P K N a) (comp P K N b) :: k) tmps (.code (.cond c a b) :: k') []
  | reg (ops : Array Oper) (bef : Nat → Nat → Prop) (h₀ : AHeap) (pre left : List Nat) (cs is : List AIns) (rest : List Nat) (vals : Nat → AV) (vars : T AV) (tmps : Array Value) (pd : List (Nat × Pos)) (dirty : List Pos) (k : List AItem) (k' : List Item)
      (S : RegS P K N ops bef φ h₀ pre left cs is rest vals vars tmps pd) (U : Once N ops) (hd : (∀ j t, dstAt ops j = some t → K t = true → pos t ∈ dirty) ∨ ∀ i j, bef i j ∨ bef j i ∨ i = j)
      (ht : TailR P K N φ (envOf ops (left.reverse ++ pre)) k k') (hh : s = false → h₀ = h) (hp : ∀ q ∈ pd, ∀ ob, h₀.t.get q.2 = some ob → h.t.get q.2 = some ob)
      (hs : s = true → ∃ i left' rest' keep g wo is', left = i :: left' ∧ rest = i :: rest' ∧ cs = [] ∧ is = .op keep g (.w wo) :: is') :
      BodyR φ h s vars (pre.map vals) (.run (cs ++ is) dirty :: k) tmps (.inRegion ops rest :: k') pd

noncomputable def MBodyR (φ : Map) (h : AHeap) (s : Bool) (pd : List (Nat × Pos)) (m : AMode) (vars : T AV) (loc : List AV) (todo : List AItem) (g : Frame) : Prop := match m with
  | .run => g.mode = .run ∧ BodyR P K N φ h s vars loc todo g.tmps g.todo pd
  | .returning => g.mode = .returning ∧ VarsR K φ vars g.tmps ∧ pd = []
  | .panicking c => ∃ d, g.mode = .panicking d ∧ ChainR φ c d ∧ VarsR K φ vars g.tmps ∧ pd = []
end

section
variable (P : Program)
structure FrR (φ : Map) (h : AHeap) (s : Bool) (pd : List (Nat × Pos)) (fr : AFrame) (g : Frame) : Prop where
  fn : g.fn = fr.x.fn
  kind : g.kind = fr.x.kind
  round : RoundR φ fr.x.round g.roundOf
  defers : DefsR φ fr.defers g.defers
  known : ∃ f, P.funcs[fr.x.fn]? = some f
  body : MBodyR P (keepOf P fr.x.fn) (ntOf P fr.x.fn) φ h s pd fr.mode fr.vars fr.loc fr.todo g

/-- what lies below a run: frames, blocks that the model has still to make, and how it began -/
structure Bot where
  frames : List Frame
  B : Pos → Prop
  φ0 : Map
  h0 : AHeap
  w0 : World
noncomputable def From (cs0 : Bot) (φ : Map) (h : AHeap) (w : World) : Prop := Grows (fun _ => False) cs0.φ0 φ cs0.h0 h cs0.w0 w
noncomputable def StkR (φ : Map) (h : AHeap) (cs0 : Bot) : (Pos → Prop) → List AFrame → List Frame → Prop
  | D, [], gs => gs = cs0.frames ∧ ∀ b, cs0.B b → D b
  | D, fr :: cs, gs => ∃ g gs' pd D0, gs = g :: gs' ∧ FrR P φ h true pd fr g ∧ Held φ h D0 pd ∧ (∀ q ∈ pd, D q.2) ∧ (∀ b, D0 b → D b) ∧ StkR φ h cs0 D0 cs gs'

structure CfgR (φ : Map) (cs0 : Bot) (c : ACfg) (g : Frame) (gs : List Frame) (w : World) : Prop where
  rep : Rep P φ c.h w
  ex : ∃ pd D, FrR P φ c.h false pd c.fr g ∧ Held φ c.h D pd ∧ StkR P φ c.h cs0 D c.cs gs ∧ ∀ b, D b → b.toNat < c.h.next.toNat
end

section
variable {P : Program} {K : Nat → Bool} {N : Nat} {φ φ' : Map} {h h' : AHeap} {w w' : World}

theorem ChainR.mono (hle : φ.le φ') {c : List (AV × Bool)} {d : List PanicEntry} (H : ChainR φ c d) : ChainR φ' c d := by
  induction H with
  | nil => exact .nil
  | cons v b u c d h _ ih => exact .cons v b u c d (h.mono hle) ih
theorem ChainR.append {a : List (AV × Bool)} {b : List PanicEntry} (H : ChainR φ a b) {c : List (AV × Bool)} {d : List PanicEntry} (I : ChainR φ c d) : ChainR φ (a ++ c) (b ++ d) := by
  induction H with
  | nil => exact I
  | cons v b u c d h _ ih => exact .cons v b u _ _ h ih
theorem RoundR.mono (hle : φ.le φ') {a : Option Pos} {b : Option Nat} (H : RoundR φ a b) : RoundR φ' a b := by
  cases a <;> cases b <;> first | exact H | (obtain ⟨L, h1, h2⟩ := H; exact ⟨L, hle _ _ h1, h2⟩)
theorem TodoR.mono (hle : φ.le φ') {k : List AItem} {k' : List Item} (H : TodoR P K N φ k k') : TodoR P K N φ' k k' := by
  induction H with
  | nil => exact .nil
  | code c k k' _ ih => exact .code c k k' ih
  | inBlock id k k' _ ih => exact .inBlock id k k' ih
  | inLoop c k k' _ ih => exact .inLoop c k k' ih
  | inRF b L k k' hb _ ih => exact .inRF b L k k' (hle _ _ hb) ih
  | endRF b L k k' hb _ ih => exact .endRF b L k k' (hle _ _ hb) ih
  | begin k k' _ ih => exact .begin k k' ih
theorem TailR.mono (hle : φ.le φ') {env : List (Option Tmp)} {k : List AItem} {k' : List Item} (H : TailR P K N φ env k k') : TailR P K N φ' env k k' := by
  cases H with
  | plain _ _ h => exact .plain _ _ (h.mono hle)
  | cnd x c a b k k' hc h => exact .cnd x c a b k k' hc (h.mono hle)

section
variable {ops : Array Oper} {bef : Nat → Nat → Prop} {pre left : List Nat} {cs is : List AIns} {rest : List Nat} {vals : Nat → AV} {vars : T AV} {tmps : Array Value} {pd : List (Nat × Pos)}
theorem OpdOK.mono (hle : φ.le φ') {j : Nat} {x : Operand} {a : AV} (H : OpdOK ops bef φ pre rest vals tmps j x a) : OpdOK ops bef φ' pre rest vals tmps j x a := by
  rcases H with H | ⟨h1, h2⟩
  · exact .inl H
  · exact .inr ⟨h1.mono hle, h2⟩
theorem GuardOK.mono (hle : φ.le φ') {j : Nat} {g : Option (Nat × Bool)} {r : Bool} (H : GuardOK ops bef φ pre rest vals tmps j g r) : GuardOK ops bef φ' pre rest vals tmps j g r := by
  cases H with
  | none => exact .none
  | some k b t v r ht hv hr => exact .some k b t v r ht (hv.mono hle) hr
theorem RegS.mono (hle : φ.le φ') (S : RegS P K N ops bef φ h pre left cs is rest vals vars tmps pd) : RegS P K N ops bef φ' h pre left cs is rest vals vars tmps pd :=
  ⟨S.ins, S.chk, S.sub, S.mem, S.nodup, S.both, S.lin, S.closed, S.size, fun i hi hr t ht => (S.conc i hi hr t ht).mono hle, fun t v hv => let ⟨a, b, c⟩ := S.varsR t v hv; ⟨a, b, fun hno => (c hno).mono hle⟩, fun new j pj hp hj => by
    obtain ⟨o, vs, r, c1, c2, c3, c4, c5, c6⟩ := S.cert new j pj hp hj
    exact ⟨o, vs, r, c1, c2, fun y hy a ha x hx => (c3 y hy a ha x hx).mono hle, c4.mono hle, c5, c6⟩⟩
end

theorem BodyR.mono (hle : φ.le φ') {vars : T AV} {loc : List AV} {todo : List AItem} {tmps : Array Value} {todo' : List Item} {pd : List (Nat × Pos)} (H : BodyR P K N φ h true vars loc todo tmps todo' pd)
    (hget : ∀ q ∈ pd, ∀ ob, h.t.get q.2 = some ob → h'.t.get q.2 = some ob) : BodyR P K N φ' h' true vars loc todo tmps todo' pd := by
  cases H with
  | plain _ _ _ _ _ hv hn ht => exact .plain _ _ _ _ _ (hv.mono hle) hn (ht.mono hle)
  | cnd _ _ x c a b k _ k' hv hn hx ht => exact .cnd _ _ x c a b k _ k' (hv.mono hle) hn (fun v hv => (hx v hv).mono hle) (ht.mono hle)
  | reg ops bef h₀ pre left cs is rest vals _ _ _ dirty k k' S U hd ht hh hp hs => exact .reg ops bef h₀ pre left cs is rest vals _ _ _ dirty k k' (S.mono hle) U hd (ht.mono hle) (by simp) (fun q hq ob ho => hget q hq ob (hp q hq ob ho)) hs
theorem FrR.mono (hle : φ.le φ') {pd : List (Nat × Pos)} {fr : AFrame} {g : Frame} (H : FrR P φ h true pd fr g) (hget : ∀ q ∈ pd, ∀ ob, h.t.get q.2 = some ob → h'.t.get q.2 = some ob) : FrR P φ' h' true pd fr g := by
  refine ⟨H.fn, H.kind, H.round.mono hle, H.defers.mono hle, H.known, ?_⟩
  have hb := H.body
  unfold MBodyR at *
  split
  · rename_i hm
    rw [hm] at hb
    exact ⟨hb.1, hb.2.mono hle hget⟩
  · rename_i hm
    rw [hm] at hb
    exact ⟨hb.1, hb.2.1.mono hle, hb.2.2⟩
  · rename_i c hm
    rw [hm] at hb
    obtain ⟨d, h1, h2, h3, h4⟩ := hb
    exact ⟨d, h1, h2.mono hle, h3.mono hle, h4⟩
theorem Grows.weaken {D D0 : Pos → Prop} (G : Grows D φ φ' h h' w w') (hD : ∀ b, D0 b → D b) : Grows D0 φ φ' h h' w w' :=
  ⟨G.le, G.size, G.os, G.tape, G.output, G.keep, G.fresh, fun b o hb => G.pend b o (hD b hb), G.next⟩
theorem StkR.sub {cs0 : Bot} : ∀ {cs : List AFrame} {gs : List Frame} {D : Pos → Prop}, StkR P φ h cs0 D cs gs → ∀ b, cs0.B b → D b := by
  intro cs
  induction cs with
  | nil => intro gs D H; exact H.2
  | cons fr cs ih =>
    intro gs D H b hb
    obtain ⟨g, gs', pd, D0, h1, h2, h3, h4, h5, h6⟩ := H
    exact h5 b (ih h6 b hb)
theorem Grows.of {cs0 : Bot} {D : Pos → Prop} {cs : List AFrame} {gs : List Frame} {ψ : Map} {hh : AHeap} (G : Grows D φ φ' h h' w w') (St : StkR P ψ hh cs0 D cs gs) : Grows cs0.B φ φ' h h' w w' := G.weaken St.sub
theorem Held.grows {D D0 : Pos → Prop} {pd : List (Nat × Pos)} (H : Held φ h D0 pd) (G : Grows D φ φ' h h' w w') (hD : ∀ q ∈ pd, D q.2) : Held φ' h' D0 pd ∧ ∀ q ∈ pd, ∀ ob, h.t.get q.2 = some ob → h'.t.get q.2 = some ob := by
  have key : ∀ q ∈ pd, ∀ ob, h.t.get q.2 = some ob → φ' q.2 = none ∧ h'.t.get q.2 = some ob := fun q hq ob ho => by
    obtain ⟨h1, ob', h2, h3, h4⟩ := H.held q hq
    rw [ho] at h2; cases h2
    exact G.pend q.2 ob (hD q hq) ho h3 h4 h1
  refine ⟨⟨fun q hq => ?_, H.nodup, H.far⟩, fun q hq ob ho => (key q hq ob ho).2⟩
  obtain ⟨_, ob, h2, h3, h4⟩ := H.held q hq
  obtain ⟨h5, h6⟩ := key q hq ob h2
  exact ⟨h5, ob, h6, h3, h4⟩
theorem StkR.mono {cs0 : Bot} : ∀ {cs : List AFrame} {gs : List Frame} {D : Pos → Prop}, StkR P φ h cs0 D cs gs → Grows D φ φ' h h' w w' → StkR P φ' h' cs0 D cs gs := by
  intro cs
  induction cs with
  | nil => intro gs D H _; exact H
  | cons fr cs ih =>
    intro gs D H G
    obtain ⟨g, gs', pd, D0, h1, h2, h3, h4, h5, h6⟩ := H
    obtain ⟨h7, h8⟩ := h3.grows G h4
    exact ⟨g, gs', pd, D0, h1, h2.mono G.le h8, h7, h4, h5, ih h6 (G.weaken h5)⟩

/-- the frame of a call -/
theorem args_get (keep : Nat) : ∀ (l : List AV) (t : T AV) (i j : Nat), (args keep t i l).get (pos j) = if i ≤ j ∧ j < i + l.length ∧ Nat.testBit keep j = true then l[j - i]? else t.get (pos j) := by
  intro l
  induction l with
  | nil => intro t i j; rw [if_neg (by simp; omega)]; rfl
  | cons v l ih =>
    intro t i j
    show (args keep (bi (Nat.testBit keep i) (t.set v (pos i)) t) (Nat.succ i) l).get (pos j) = _
    rw [ih]
    simp only [List.length_cons]
    by_cases hj : j = i
    · subst hj
      rw [if_neg (by omega)]
      cases hb : Nat.testBit keep j with
      | true => rw [bi_true, T.get_set, if_pos rfl, if_pos ⟨by omega, by omega, rfl⟩]; simp
      | false => rw [bi_false, if_neg (by simp)]
    · have hset : (bi (Nat.testBit keep i) (t.set v (pos i)) t).get (pos j) = t.get (pos j) := by
        cases Nat.testBit keep i with
        | true => rw [bi_true, T.get_set, if_neg (fun he => hj (pos_inj he).symm)]
        | false => rfl
      rw [hset]
      by_cases h2 : Nat.succ i ≤ j ∧ j < Nat.succ i + l.length ∧ Nat.testBit keep j = true
      · rw [if_pos h2, if_pos ⟨by omega, by omega, h2.2.2⟩, show j - i = (j - Nat.succ i) + 1 by omega, List.getElem?_cons_succ]
      · rw [if_neg h2, if_neg (fun h3 => h2 ⟨by omega, by omega, h3.2.2⟩)]

/-- the functions, as they were read -/
noncomputable def FOk (P : Program) (F : FuncId → Option AFunc) : Prop := ∀ f af, F f = some af → ∃ fn, P.funcs[f]? = some fn ∧ compF P fn = some af ∧ fn.name ≠ "runtime.NumGoroutine"
theorem compF_inv {fn : Func} {af : AFunc} (h : compF P fn = some af) : ∃ b rs, fn.body = some b ∧ ress P fn.results.toList = some rs ∧ af = ⟨liveF fn, comp P (Nat.testBit (liveF fn)) fn.ntmps b, rs⟩ := by
  unfold compF at h
  split at h
  · rename_i b hb
    split at h
    · rename_i r hr
      cases h
      exact ⟨b, r, hb, hr, rfl⟩
    · cases h
  · cases h
theorem enter_rel {F : FuncId → Option AFunc} (HF : FOk P F) {f : FuncId} {xs : List AV} {ys : Array Value} {kind : CallKind} {fr : AFrame} (he : enter F f xs kind = some fr) (hx : VRs φ xs ys.toList) : FrR P φ h false [] fr (Frame.enter P f ys kind) ∧ fr.x = ⟨f, kind, none⟩ := by
  obtain ⟨af, h1, h2⟩ := ob_inv (o := F f) he
  obtain ⟨fn, h3, h4, _⟩ := HF f af h1
  obtain ⟨b, rs, h5, h6, rfl⟩ := compF_inv h4
  cases h2
  refine ⟨⟨rfl, rfl, trivial, .nil, ⟨fn, h3⟩, rfl, ?_⟩, rfl⟩
  have hK : keepOf P f = Nat.testBit (liveF fn) := by unfold keepOf; rw [h3]
  have hN : ntOf P f = fn.ntmps := by unfold ntOf; rw [h3]
  show BodyR P (keepOf P f) (ntOf P f) φ h false _ _ _ _ _ _
  rw [hK, hN]
  have hl := hx.length
  have ht : (Frame.enter P f ys kind).todo = [.code b] := by simp [Frame.enter, h3, h5]
  rw [ht]
  refine .plain _ _ _ _ _ (fun t v hv => ?_) ?_ (.code b [] [] .nil)
  · rw [args_get] at hv
    split at hv
    · rename_i hc
      refine ⟨hc.2.2, ?_⟩
      rw [Nat.sub_zero] at hv
      obtain ⟨u, g1, g2⟩ := hx.get t hv
      have hlt : t < ys.size := by have := hc.2.1; simp at hl; omega
      have : (Frame.enter P f ys kind).tmps.getD t undef = u := by
        simp only [Frame.enter, Array.getD_eq_getD_getElem?]
        rw [Array.getElem?_append_left hlt]
        rw [Array.getElem?_toList] at g1
        rw [g1]; rfl
      rw [this]; exact g2
    · cases hv
  · simp only [Frame.enter, h3]
    simp
    omega
end

end Go.Ev
