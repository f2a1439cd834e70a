import Derived.Test.YtogabhigkmggiaaGreatDoorRows
import Derived.JoinedOf
set_option linter.unusedVariables false
namespace Go.Proofs.YtogabhigkmggiaaGreatDoor
open Go
theorem grown_fix {P : Program} {L : List TypeId} (h : P.grow L = L) : ∀ d, P.grown d L = L
  | 0 => rfl
  | d + 1 => by rw [Program.grown, h]; exact grown_fix h d
theorem grown_add {P : Program} : ∀ (a b : Nat) (L : List TypeId), P.grown (a + b) L = P.grown b (P.grown a L)
  | 0, b, L => by rw [Nat.zero_add]; rfl
  | a + 1, b, L => by rw [Nat.add_right_comm]; exact grown_add a b (P.grow L)
def bk (P : Program) (t : TypeId) : List TypeId := P.grown 8 [t]
def fixB (P : Program) (t : TypeId) : Bool := P.grow (bk P t) == bk P t
theorem book_bk {P : Program} (hs : decide (8 ≤ P.types.size) = true) {t : TypeId} (h : fixB P t = true) : P.book t = bk P t := by
  have hs := of_decide_eq_true hs
  obtain ⟨k, hk⟩ := Nat.exists_eq_add_of_le hs
  unfold Program.book
  rw [hk, grown_add]
  exact grown_fix (L := bk P t) (by unfold fixB at h; exact eq_of_beq h) k
theorem size8 : decide (8 ≤ Tryz.prog.types.size) = true := by kernel_rfl
def loopB (P : Program) (t : TypeId) : Bool := fixB P t && (bk P t).all fun u => (P.partsOf u).all (fixB P)
def loopV (P : Program) (t : TypeId) : Bool := (bk P t).any fun u => (P.partsOf u).any fun v => (bk P v).contains u
theorem any_congr_mem {α : Type} {p q : α → Bool} : ∀ {l : List α}, (∀ a ∈ l, p a = q a) → l.any p = l.any q
  | [], _ => rfl
  | a :: l, h => by rw [List.any_cons, List.any_cons, h a (List.mem_cons_self ..), any_congr_mem fun b hb => h b (List.mem_cons_of_mem _ hb)]
theorem loops_bk {t : TypeId} (h : loopB Tryz.prog t = true) : Tryz.prog.loopsFrom t = loopV Tryz.prog t := by
  simp only [loopB, Bool.and_eq_true, List.all_eq_true] at h
  unfold Program.loopsFrom loopV
  rw [book_bk size8 h.1]
  refine any_congr_mem fun u hu => any_congr_mem fun v hv => ?_
  rw [book_bk size8 (h.2 u hu v hv)]
theorem fix22 : fixB Tryz.prog 22 = true := by kernel_rfl
theorem fix3 : fixB Tryz.prog 3 = true := by kernel_rfl
theorem fix4 : fixB Tryz.prog 4 = true := by kernel_rfl
theorem read22 : Tryz.prog.readableRec 22 = true := by unfold Program.readableRec; rw [book_bk size8 fix22]; kernel_rfl
theorem read3 : Tryz.prog.readableRec 3 = true := by unfold Program.readableRec; rw [book_bk size8 fix3]; kernel_rfl
theorem read4 : Tryz.prog.readableRec 4 = true := by unfold Program.readableRec; rw [book_bk size8 fix4]; kernel_rfl
theorem maps22 : Tryz.prog.mapsRec 22 = false := by unfold Program.mapsRec; rw [book_bk size8 fix22]; kernel_rfl
theorem maps3 : Tryz.prog.mapsRec 3 = false := by unfold Program.mapsRec; rw [book_bk size8 fix3]; kernel_rfl
theorem ifs22 : Tryz.prog.ifacesRec 22 = false := by unfold Program.ifacesRec; rw [book_bk size8 fix22]; kernel_rfl
theorem ifs3 : Tryz.prog.ifacesRec 3 = false := by unfold Program.ifacesRec; rw [book_bk size8 fix3]; kernel_rfl
theorem ifs4 : Tryz.prog.ifacesRec 4 = false := by unfold Program.ifacesRec; rw [book_bk size8 fix4]; kernel_rfl
theorem loops22 : Tryz.prog.loopsFrom 22 = false := by rw [loops_bk (by kernel_rfl)]; kernel_rfl
theorem loops3 : Tryz.prog.loopsFrom 3 = false := by rw [loops_bk (by kernel_rfl)]; kernel_rfl
theorem loops4 : Tryz.prog.loopsFrom 4 = false := by rw [loops_bk (by kernel_rfl)]; kernel_rfl
theorem wide22 : Tryz.prog.wideKeysFrom 22 = false := by unfold Program.wideKeysFrom; rw [book_bk size8 fix22]; kernel_rfl
theorem wide3 : Tryz.prog.wideKeysFrom 3 = false := by unfold Program.wideKeysFrom; rw [book_bk size8 fix3]; kernel_rfl
theorem wide4 : Tryz.prog.wideKeysFrom 4 = false := by unfold Program.wideKeysFrom; rw [book_bk size8 fix4]; kernel_rfl
theorem own_of {t : TypeId} (h : Tryz.prog.veiledRec t = false) : Tryz.prog.veiledOwn t = true := by
  unfold Program.veiledOwn; rw [h]; rfl
theorem veil22 : Tryz.prog.veiledRec 22 = false := by unfold Program.veiledRec; rw [book_bk size8 fix22]; kernel_rfl
theorem veil3 : Tryz.prog.veiledRec 3 = false := by unfold Program.veiledRec; rw [book_bk size8 fix3]; kernel_rfl
theorem veil4 : Tryz.prog.veiledRec 4 = false := by unfold Program.veiledRec; rw [book_bk size8 fix4]; kernel_rfl
theorem fix780 : fixB Tryz.prog 780 = true := by kernel_rfl
theorem veil780 : Tryz.prog.veiledRec 780 = false := by unfold Program.veiledRec; rw [book_bk size8 fix780]; kernel_rfl
theorem fix819 : fixB Tryz.prog 819 = true := by kernel_rfl
theorem veil819 : Tryz.prog.veiledRec 819 = false := by unfold Program.veiledRec; rw [book_bk size8 fix819]; kernel_rfl
theorem fix784 : fixB Tryz.prog 784 = true := by kernel_rfl
theorem veil784 : Tryz.prog.veiledRec 784 = false := by unfold Program.veiledRec; rw [book_bk size8 fix784]; kernel_rfl
theorem fix865 : fixB Tryz.prog 865 = true := by kernel_rfl
theorem veil865 : Tryz.prog.veiledRec 865 = false := by unfold Program.veiledRec; rw [book_bk size8 fix865]; kernel_rfl
theorem fix866 : fixB Tryz.prog 866 = true := by kernel_rfl
theorem veil866 : Tryz.prog.veiledRec 866 = false := by unfold Program.veiledRec; rw [book_bk size8 fix866]; kernel_rfl
theorem fix869 : fixB Tryz.prog 869 = true := by kernel_rfl
theorem veil869 : Tryz.prog.veiledRec 869 = false := by unfold Program.veiledRec; rw [book_bk size8 fix869]; kernel_rfl
theorem fix322 : fixB Tryz.prog 322 = true := by kernel_rfl
theorem veil322 : Tryz.prog.veiledRec 322 = false := by unfold Program.veiledRec; rw [book_bk size8 fix322]; kernel_rfl
theorem fix418 : fixB Tryz.prog 418 = true := by kernel_rfl
theorem veil418 : Tryz.prog.veiledRec 418 = false := by unfold Program.veiledRec; rw [book_bk size8 fix418]; kernel_rfl
end Go.Proofs.YtogabhigkmggiaaGreatDoor
