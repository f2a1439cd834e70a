import Derived.Test.YtcgjkfpkbhhkfaaGreatDoorRows
import Derived.JoinedOf
set_option linter.unusedVariables false
namespace Go.Proofs.YtcgjkfpkbhhkfaaGreatDoor
open Go
theorem grown_fix {P : Program} {L : List TypeId} (h : P.grow L = L) : ∀ d, P.grown d L = L
  | 0 => rfl
  | d + 1 => by rw [Program.grown, h]; exact grown_fix h d
theorem grown_add {P : Program} : ∀ (a b : Nat) (L : List TypeId), P.grown (a + b) L = P.grown b (P.grown a L)
  | 0, b, L => by rw [Nat.zero_add]; rfl
  | a + 1, b, L => by rw [Nat.add_right_comm]; exact grown_add a b (P.grow L)
def bk (P : Program) (t : TypeId) : List TypeId := P.grown 8 [t]
def fixB (P : Program) (t : TypeId) : Bool := P.grow (bk P t) == bk P t
theorem book_bk {P : Program} (hs : decide (8 ≤ P.types.size) = true) {t : TypeId} (h : fixB P t = true) : P.book t = bk P t := by
  have hs := of_decide_eq_true hs
  obtain ⟨k, hk⟩ := Nat.exists_eq_add_of_le hs
  unfold Program.book
  rw [hk, grown_add]
  exact grown_fix (L := bk P t) (by unfold fixB at h; exact eq_of_beq h) k
theorem size8 : decide (8 ≤ Tryz.prog.types.size) = true := by kernel_rfl
def loopB (P : Program) (t : TypeId) : Bool := fixB P t && (bk P t).all fun u => (P.partsOf u).all (fixB P)
def loopV (P : Program) (t : TypeId) : Bool := (bk P t).any fun u => (P.partsOf u).any fun v => (bk P v).contains u
theorem any_congr_mem {α : Type} {p q : α → Bool} : ∀ {l : List α}, (∀ a ∈ l, p a = q a) → l.any p = l.any q
  | [], _ => rfl
  | a :: l, h => by rw [List.any_cons, List.any_cons, h a (List.mem_cons_self ..), any_congr_mem fun b hb => h b (List.mem_cons_of_mem _ hb)]
theorem loops_bk {t : TypeId} (h : loopB Tryz.prog t = true) : Tryz.prog.loopsFrom t = loopV Tryz.prog t := by
  simp only [loopB, Bool.and_eq_true, List.all_eq_true] at h
  unfold Program.loopsFrom loopV
  rw [book_bk size8 h.1]
  refine any_congr_mem fun u hu => any_congr_mem fun v hv => ?_
  rw [book_bk size8 (h.2 u hu v hv)]
theorem fix5 : fixB Tryz.prog 5 = true := by kernel_rfl
theorem fix4 : fixB Tryz.prog 4 = true := by kernel_rfl
theorem fix578 : fixB Tryz.prog 578 = true := by kernel_rfl
theorem fix605 : fixB Tryz.prog 605 = true := by kernel_rfl
theorem fix614 : fixB Tryz.prog 614 = true := by kernel_rfl
theorem fix646 : fixB Tryz.prog 646 = true := by kernel_rfl
theorem fix647 : fixB Tryz.prog 647 = true := by kernel_rfl
theorem fix650 : fixB Tryz.prog 650 = true := by kernel_rfl
theorem read5 : Tryz.prog.readableRec 5 = true := by unfold Program.readableRec; rw [book_bk size8 fix5]; kernel_rfl
theorem maps5 : Tryz.prog.mapsRec 5 = false := by unfold Program.mapsRec; rw [book_bk size8 fix5]; kernel_rfl
theorem ifs5 : Tryz.prog.ifacesRec 5 = false := by unfold Program.ifacesRec; rw [book_bk size8 fix5]; kernel_rfl
theorem wide5 : Tryz.prog.wideKeysFrom 5 = false := by unfold Program.wideKeysFrom; rw [book_bk size8 fix5]; kernel_rfl
theorem loops5 : Tryz.prog.loopsFrom 5 = false := by rw [loops_bk (by kernel_rfl)]; kernel_rfl
theorem read4 : Tryz.prog.readableRec 4 = true := by unfold Program.readableRec; rw [book_bk size8 fix4]; kernel_rfl
theorem maps4 : Tryz.prog.mapsRec 4 = false := by unfold Program.mapsRec; rw [book_bk size8 fix4]; kernel_rfl
theorem ifs4 : Tryz.prog.ifacesRec 4 = false := by unfold Program.ifacesRec; rw [book_bk size8 fix4]; kernel_rfl
theorem wide4 : Tryz.prog.wideKeysFrom 4 = false := by unfold Program.wideKeysFrom; rw [book_bk size8 fix4]; kernel_rfl
theorem loops4 : Tryz.prog.loopsFrom 4 = false := by rw [loops_bk (by kernel_rfl)]; kernel_rfl
theorem own_of {t : TypeId} (h : Tryz.prog.veiledRec t = false) : Tryz.prog.veiledOwn t = true := by
  unfold Program.veiledOwn; rw [h]; rfl
theorem veil5 : Tryz.prog.veiledRec 5 = false := by unfold Program.veiledRec; rw [book_bk size8 fix5]; kernel_rfl
theorem veil4 : Tryz.prog.veiledRec 4 = false := by unfold Program.veiledRec; rw [book_bk size8 fix4]; kernel_rfl
theorem veil578 : Tryz.prog.veiledRec 578 = false := by unfold Program.veiledRec; rw [book_bk size8 fix578]; kernel_rfl
theorem veil605 : Tryz.prog.veiledRec 605 = false := by unfold Program.veiledRec; rw [book_bk size8 fix605]; kernel_rfl
theorem veil614 : Tryz.prog.veiledRec 614 = false := by unfold Program.veiledRec; rw [book_bk size8 fix614]; kernel_rfl
theorem veil646 : Tryz.prog.veiledRec 646 = false := by unfold Program.veiledRec; rw [book_bk size8 fix646]; kernel_rfl
theorem veil647 : Tryz.prog.veiledRec 647 = false := by unfold Program.veiledRec; rw [book_bk size8 fix647]; kernel_rfl
theorem veil650 : Tryz.prog.veiledRec 650 = false := by unfold Program.veiledRec; rw [book_bk size8 fix650]; kernel_rfl
end Go.Proofs.YtcgjkfpkbhhkfaaGreatDoor
