import Derived.Test.YtogabhigkmggiaaGreatDoorTabOk
import GoSem.ClaimFn
import GoSem.ClaimGoes
set_option linter.unusedVariables false
set_option linter.unusedSimpArgs false
set_option linter.unusedSectionVars false
namespace Go.Clo
open Go Go.Proofs Go.Ev
/-- what the form's closed facts ask of one function -/
structure FRow where
  leads : List Nat
  place : Option String
  unf : Bool
  vars : List Nat
  entry : Option String
def unfOf (fn : Func) : Bool := match fn.body with
  | some c => c.unfollowed
  | none => entryCalls fn
noncomputable def rowOf (fn : Func) : FRow := ⟨Tryz.prog.leadsTo fn, if fn.ours || fn.body.isNone || fn.name == "runtime.NumGoroutine" then some fn.name else none, unfOf fn, fn.body.elim [] Code.globalsNamed, if fn.body.isNone then entryReads.lookup fn.name else none⟩
def RowAt (q : Pos) (r : FRow) : Prop := ∃ fn, Tryz.prog.funcs[q.toNat - 1]? = some fn ∧ rowOf fn = r ∧ fn.goes = false
noncomputable def rowsAll : T FRow → (Pos → FRow → Prop) → Prop
  | .leaf, _ => True
  | .node l v r, p => (∀ y, v = some y → p .H y) ∧ rowsAll l (fun q => p (.O q)) ∧ rowsAll r (fun q => p (.I q))
theorem rowsAll_get : ∀ (t : T FRow) (p : Pos → FRow → Prop), rowsAll t p → ∀ q y, t.get q = some y → p q y := by
  intro t
  induction t with
  | leaf => intro p _ q y h; cases h
  | node l v r ihl ihr =>
    intro p ⟨h1, h2, h3⟩ q y h
    cases q with
    | H => exact h1 y h
    | O q => exact ihl _ h2 q y h
    | I q => exact ihr _ h3 q y h
theorem noRow {p : FRow → Prop} : ∀ y, (none : Option FRow) = some y → p y := fun _ h => by cases h
theorem row_at {q : Pos} {n : Nat} {fn : Func} {r : FRow} (hq : q.toNat - 1 = n) (h : Tryz.prog.funcs[n]? = some fn) (hr : rowOf fn = r) (hg : fn.goes = false) : ∀ y, some r = some y → RowAt q y := by
  intro y hy
  cases hy
  exact ⟨fn, by rw [hq]; exact h, hr, hg⟩
noncomputable def row0 : FRow := ⟨[], some Tryz.f0.name, false, [], none⟩
noncomputable def row1 : FRow := ⟨[], some Tryz.f1.name, false, [], none⟩
noncomputable def row2 : FRow := ⟨[1], none, false, [], none⟩
noncomputable def row3 : FRow := ⟨[6, 7, 8, 9, 10, 11, 12, 6, 13, 13, 13], none, false, [], none⟩
noncomputable def row4 : FRow := ⟨[6, 7, 8, 8, 6], none, false, [], none⟩
noncomputable def row5 : FRow := ⟨[6, 9, 6], none, false, [], none⟩
noncomputable def row6 : FRow := ⟨[15, 14, 7, 8, 9, 15, 16, 15, 17, 15, 18], none, false, [], none⟩
noncomputable def row7 : FRow := ⟨[20, 19], none, false, [], none⟩
noncomputable def row8 : FRow := ⟨[20, 19], none, false, [], none⟩
noncomputable def row9 : FRow := ⟨[21, 19], none, false, [], none⟩
noncomputable def row10 : FRow := ⟨[], none, false, [], none⟩
noncomputable def row11 : FRow := ⟨[], none, false, [], none⟩
noncomputable def row12 : FRow := ⟨[], none, false, [], none⟩
noncomputable def row13 : FRow := ⟨[], none, false, [], none⟩
noncomputable def row14 : FRow := ⟨[22, 23], none, true, [], none⟩
noncomputable def row15 : FRow := ⟨[25, 24, 27, 29, 28, 24, 24, 26], none, false, [], none⟩
noncomputable def row16 : FRow := ⟨[30, 31, 32], none, false, [], none⟩
noncomputable def row17 : FRow := ⟨[30, 31], none, false, [], none⟩
noncomputable def row18 : FRow := ⟨[33, 34, 23], none, true, [], none⟩
noncomputable def row19 : FRow := ⟨[], none, true, [], none⟩
noncomputable def row20 : FRow := ⟨[35], none, false, [], none⟩
noncomputable def row21 : FRow := ⟨[], none, false, [], none⟩
noncomputable def row22 : FRow := ⟨[36], none, false, [], none⟩
noncomputable def row23 : FRow := ⟨[37], none, false, [], none⟩
noncomputable def row24 : FRow := ⟨[], none, false, [], none⟩
noncomputable def row25 : FRow := ⟨[], none, false, [], none⟩
noncomputable def row26 : FRow := ⟨[], none, false, [], none⟩
noncomputable def row27 : FRow := ⟨[], none, false, [], none⟩
noncomputable def row28 : FRow := ⟨[25], none, false, [], none⟩
noncomputable def row29 : FRow := ⟨[], none, false, [], none⟩
noncomputable def row30 : FRow := ⟨[41], none, false, [], none⟩
noncomputable def row31 : FRow := ⟨[42, 43], none, false, [], none⟩
noncomputable def row32 : FRow := ⟨[41, 44, 45], none, false, [], none⟩
noncomputable def row33 : FRow := ⟨[46, 47, 48, 49, 50, 51], none, false, [], none⟩
noncomputable def row34 : FRow := ⟨[53, 52], none, false, [], none⟩
noncomputable def row35 : FRow := ⟨[], none, false, [], none⟩
noncomputable def row36 : FRow := ⟨[54, 55, 56, 45], none, false, [], none⟩
noncomputable def row37 : FRow := ⟨[38, 40, 39], none, false, [], none⟩
noncomputable def row38 : FRow := ⟨[], none, false, [], none⟩
noncomputable def row39 : FRow := ⟨[57, 58], none, false, [], none⟩
noncomputable def row40 : FRow := ⟨[], none, true, [], none⟩
noncomputable def row41 : FRow := ⟨[53, 59], none, false, [], none⟩
noncomputable def row42 : FRow := ⟨[41, 53, 61, 60], none, false, [], none⟩
noncomputable def row43 : FRow := ⟨[41, 63, 64], none, false, [], none⟩
noncomputable def row44 : FRow := ⟨[65, 66, 67, 66, 68, 66, 68, 66, 68, 66, 44, 66, 44, 69, 65, 66, 68, 66, 66, 70, 66, 71, 66], none, false, [], none⟩
noncomputable def row45 : FRow := ⟨[], none, false, [], none⟩
noncomputable def row46 : FRow := ⟨[72, 73], none, false, [], none⟩
noncomputable def row47 : FRow := ⟨[72], none, false, [], none⟩
noncomputable def row48 : FRow := ⟨[72, 74], none, false, [], none⟩
noncomputable def row49 : FRow := ⟨[75, 76, 77, 78, 78, 78, 78, 78], none, false, [], none⟩
noncomputable def row50 : FRow := ⟨[], none, false, [], none⟩
noncomputable def row51 : FRow := ⟨[79, 80], none, false, [], none⟩
noncomputable def row52 : FRow := ⟨[81], none, false, [], none⟩
noncomputable def row53 : FRow := ⟨[], none, false, [], none⟩
noncomputable def row54 : FRow := ⟨[30, 82, 83], none, false, [], none⟩
noncomputable def row55 : FRow := ⟨[], none, false, [], none⟩
noncomputable def row56 : FRow := ⟨[84, 85, 86, 87], none, true, [], none⟩
noncomputable def row57 : FRow := ⟨[88], none, false, [], none⟩
noncomputable def row58 : FRow := ⟨[89, 90, 91, 92], none, true, [], none⟩
noncomputable def row59 : FRow := ⟨[81, 93], none, false, [], none⟩
noncomputable def row60 : FRow := ⟨[94, 60], none, true, [], none⟩
noncomputable def row61 : FRow := ⟨[62], none, false, [], none⟩
noncomputable def row62 : FRow := ⟨[], none, false, [], none⟩
noncomputable def row63 : FRow := ⟨[53, 95, 60], none, false, [], none⟩
noncomputable def row64 : FRow := ⟨[97, 98, 99, 100], none, false, [], none⟩
noncomputable def row65 : FRow := ⟨[101, 102], none, false, [], none⟩
noncomputable def row66 : FRow := ⟨[65], none, false, [], none⟩
noncomputable def row67 : FRow := ⟨[103, 66, 104, 66, 104], none, false, [], none⟩
noncomputable def row68 : FRow := ⟨[66, 67], none, false, [], none⟩
noncomputable def row69 : FRow := ⟨[66, 68, 66, 66, 105, 66, 71], none, false, [], none⟩
noncomputable def row70 : FRow := ⟨[66, 106, 107, 66, 107, 66, 66, 67, 66, 67, 66, 66, 107, 66, 68, 108], none, false, [], none⟩
noncomputable def row71 : FRow := ⟨[66, 44], none, false, [], none⟩
noncomputable def row72 : FRow := ⟨[30, 109, 110, 111, 112], none, false, [], none⟩
noncomputable def row73 : FRow := ⟨[113, 49, 114, 80], none, false, [], none⟩
noncomputable def row74 : FRow := ⟨[115], none, false, [], none⟩
noncomputable def row75 : FRow := ⟨[112], none, false, [], none⟩
noncomputable def row76 : FRow := ⟨[], none, false, [], none⟩
noncomputable def row77 : FRow := ⟨[116, 117], none, false, [], none⟩
noncomputable def row78 : FRow := ⟨[], none, false, [], none⟩
noncomputable def row79 : FRow := ⟨[113, 118], none, false, [], none⟩
noncomputable def row80 : FRow := ⟨[119, 120], none, false, [], none⟩
noncomputable def row81 : FRow := ⟨[121], none, true, [], none⟩
noncomputable def row82 : FRow := ⟨[123], none, false, [], none⟩
noncomputable def row83 : FRow := ⟨[], none, false, [], none⟩
noncomputable def row84 : FRow := ⟨[], none, false, [], none⟩
noncomputable def row85 : FRow := ⟨[124, 125, 125, 124, 125, 124, 125, 126, 126], none, false, [], none⟩
noncomputable def row86 : FRow := ⟨[127, 86, 86], none, false, [], none⟩
noncomputable def row87 : FRow := ⟨[128, 129, 130], none, false, [], none⟩
noncomputable def row88 : FRow := ⟨[], none, false, [], none⟩
noncomputable def row89 : FRow := ⟨[], none, false, [], none⟩
noncomputable def row90 : FRow := ⟨[131, 132, 132, 131, 132, 131, 132, 133, 133], none, false, [], none⟩
noncomputable def row91 : FRow := ⟨[134, 91, 91], none, false, [], none⟩
noncomputable def row92 : FRow := ⟨[135, 136, 137], none, false, [], none⟩
noncomputable def row93 : FRow := ⟨[138, 139, 140, 141, 94, 93], none, true, [], none⟩
noncomputable def row94 : FRow := ⟨[142], none, false, [], none⟩
noncomputable def row95 : FRow := ⟨[96], none, false, [], none⟩
noncomputable def row96 : FRow := ⟨[], none, false, [], none⟩
noncomputable def row97 : FRow := ⟨[150, 151, 100, 151, 100, 152, 99, 153, 98, 154, 97], none, false, [], none⟩
noncomputable def row98 : FRow := ⟨[150, 155, 151, 100, 154, 97], none, false, [], none⟩
noncomputable def row99 : FRow := ⟨[151, 100], none, false, [], none⟩
noncomputable def row100 : FRow := ⟨[151, 100], none, false, [], none⟩
noncomputable def row101 : FRow := ⟨[156], none, false, [], none⟩
noncomputable def row102 : FRow := ⟨[156], none, false, [], none⟩
noncomputable def row103 : FRow := ⟨[], none, false, [0], none⟩
noncomputable def row104 : FRow := ⟨[157, 66, 158, 66, 66, 66, 66, 65, 65, 66, 68, 66, 65, 66, 68, 66, 159], none, false, [], none⟩
noncomputable def row105 : FRow := ⟨[66, 67], none, false, [], none⟩
noncomputable def row106 : FRow := ⟨[66, 66, 66], none, false, [], none⟩
noncomputable def row107 : FRow := ⟨[66, 65], none, false, [], none⟩
noncomputable def row108 : FRow := ⟨[66, 107, 66, 107, 66, 66, 66, 107, 66, 160, 65, 66, 71], none, false, [], none⟩
noncomputable def row109 : FRow := ⟨[161, 162, 162, 163, 161, 162, 161, 162, 164, 164], none, false, [], none⟩
noncomputable def row110 : FRow := ⟨[], none, false, [], none⟩
noncomputable def row111 : FRow := ⟨[165, 166, 110, 110, 167, 169, 168, 171, 170, 167], none, true, [], none⟩
noncomputable def row112 : FRow := ⟨[173, 174, 175, 176], none, true, [], none⟩
noncomputable def row113 : FRow := ⟨[75, 82, 177], none, false, [], none⟩
noncomputable def row114 : FRow := ⟨[178], none, false, [], none⟩
noncomputable def row115 : FRow := ⟨[179, 180], none, false, [], none⟩
noncomputable def row116 : FRow := ⟨[181, 182], none, false, [], none⟩
noncomputable def row117 : FRow := ⟨[], none, false, [], none⟩
noncomputable def row118 : FRow := ⟨[178, 178, 76, 178, 178, 178, 178, 183, 184, 185, 186], none, false, [], none⟩
noncomputable def row119 : FRow := ⟨[187, 188, 189, 189, 189, 189, 189, 190, 191, 192, 193, 194, 195, 196, 197, 197, 197, 198, 198, 198, 198, 198, 199, 199, 200, 200, 201, 202, 203, 204, 205, 206, 207, 208, 209, 210, 211, 212, 213, 214, 215, 216, 217, 218, 219, 220, 221, 222, 223, 224, 225, 226, 227, 228], none, false, [], none⟩
noncomputable def row120 : FRow := ⟨[229], none, true, [], none⟩
noncomputable def row121 : FRow := ⟨[122, 94], none, true, [], none⟩
noncomputable def row122 : FRow := ⟨[], none, false, [], none⟩
noncomputable def row123 : FRow := ⟨[], none, true, [], none⟩
noncomputable def row124 : FRow := ⟨[], none, false, [], none⟩
noncomputable def row125 : FRow := ⟨[124, 125], none, false, [], none⟩
noncomputable def row126 : FRow := ⟨[85], none, false, [], none⟩
noncomputable def row127 : FRow := ⟨[116], none, false, [], none⟩
noncomputable def row128 : FRow := ⟨[], none, false, [], none⟩
noncomputable def row129 : FRow := ⟨[231], none, false, [], none⟩
noncomputable def row130 : FRow := ⟨[232], none, false, [], none⟩
noncomputable def row131 : FRow := ⟨[], none, false, [], none⟩
noncomputable def row132 : FRow := ⟨[131, 132], none, false, [], none⟩
noncomputable def row133 : FRow := ⟨[90], none, false, [], none⟩
noncomputable def row134 : FRow := ⟨[116], none, false, [], none⟩
noncomputable def row135 : FRow := ⟨[], none, false, [], none⟩
noncomputable def row136 : FRow := ⟨[88], none, false, [], none⟩
noncomputable def row137 : FRow := ⟨[233], none, false, [], none⟩
noncomputable def row138 : FRow := ⟨[234, 235, 235, 235, 236, 237, 238, 235], none, false, [], none⟩
noncomputable def row139 : FRow := ⟨[], none, false, [], none⟩
noncomputable def row140 : FRow := ⟨[239, 239, 239, 239, 240, 235, 235, 241], none, false, [], none⟩
noncomputable def row141 : FRow := ⟨[239, 239, 239, 239, 239, 238, 240, 242], none, false, [], none⟩
noncomputable def row142 : FRow := ⟨[143, 144, 143, 144, 145, 146, 147, 148, 149, 53, 143, 144, 149, 53, 143, 144, 143, 144], none, false, [], none⟩
noncomputable def row143 : FRow := ⟨[], none, true, [], none⟩
noncomputable def row144 : FRow := ⟨[], none, false, [], none⟩
noncomputable def row145 : FRow := ⟨[], none, true, [], none⟩
noncomputable def row146 : FRow := ⟨[], none, false, [], none⟩
noncomputable def row147 : FRow := ⟨[], none, true, [], none⟩
noncomputable def row148 : FRow := ⟨[], none, false, [], none⟩
noncomputable def row149 : FRow := ⟨[], none, true, [], none⟩
noncomputable def row150 : FRow := ⟨[], none, false, [], none⟩
noncomputable def row151 : FRow := ⟨[], none, true, [], none⟩
noncomputable def row152 : FRow := ⟨[], none, true, [], none⟩
noncomputable def row153 : FRow := ⟨[], none, true, [], none⟩
noncomputable def row154 : FRow := ⟨[], none, true, [], none⟩
noncomputable def row155 : FRow := ⟨[], none, false, [], none⟩
noncomputable def row156 : FRow := ⟨[243], none, false, [], none⟩
noncomputable def row157 : FRow := ⟨[244, 245], none, false, [], none⟩
noncomputable def row158 : FRow := ⟨[236, 247, 246, 245, 248, 248], none, false, [], none⟩
noncomputable def row159 : FRow := ⟨[103, 66, 67, 66, 67, 66, 67, 66, 67, 66, 67, 67, 66, 67], none, false, [1], none⟩
noncomputable def row160 : FRow := ⟨[106, 66, 66, 66, 66, 66], none, false, [], none⟩
noncomputable def row161 : FRow := ⟨[], none, false, [], none⟩
noncomputable def row162 : FRow := ⟨[249, 161, 162], none, false, [], none⟩
noncomputable def row163 : FRow := ⟨[], none, false, [], none⟩
noncomputable def row164 : FRow := ⟨[109], none, false, [], none⟩
noncomputable def row165 : FRow := ⟨[], none, false, [], none⟩
noncomputable def row166 : FRow := ⟨[250, 251], none, false, [], none⟩
noncomputable def row167 : FRow := ⟨[], none, false, [], none⟩
noncomputable def row168 : FRow := ⟨[], none, false, [], none⟩
noncomputable def row169 : FRow := ⟨[], none, false, [], none⟩
noncomputable def row170 : FRow := ⟨[253], none, true, [], none⟩
noncomputable def row171 : FRow := ⟨[172], none, false, [], none⟩
noncomputable def row172 : FRow := ⟨[254], none, false, [], none⟩
noncomputable def row173 : FRow := ⟨[], none, false, [], none⟩
noncomputable def row174 : FRow := ⟨[255, 256, 257, 256, 256, 258, 82, 259, 260, 236, 257], none, true, [], none⟩
noncomputable def row175 : FRow := ⟨[], none, false, [], none⟩
noncomputable def row176 : FRow := ⟨[261, 261, 262, 261, 263, 261, 261, 261, 261, 264, 265, 266, 267, 268, 269, 270, 271, 272, 261, 261, 261, 273, 261, 261, 261], none, false, [], none⟩
noncomputable def row177 : FRow := ⟨[178], none, false, [], none⟩
noncomputable def row178 : FRow := ⟨[], none, false, [], none⟩
noncomputable def row179 : FRow := ⟨[], none, false, [], none⟩
noncomputable def row180 : FRow := ⟨[], none, false, [], none⟩
noncomputable def row181 : FRow := ⟨[], none, false, [], none⟩
noncomputable def row182 : FRow := ⟨[274], none, false, [], none⟩
noncomputable def row183 : FRow := ⟨[275], none, false, [], none⟩
noncomputable def row184 : FRow := ⟨[], none, false, [], none⟩
noncomputable def row185 : FRow := ⟨[76, 276, 277, 278, 279, 280, 281, 282], none, false, [], none⟩
noncomputable def row186 : FRow := ⟨[178, 277, 277, 277, 78, 78, 78, 277, 283], none, false, [], none⟩
noncomputable def row187 : FRow := ⟨[284], none, false, [], none⟩
noncomputable def row188 : FRow := ⟨[], none, false, [], none⟩
noncomputable def row189 : FRow := ⟨[285, 286, 286, 286, 286, 286], none, false, [], none⟩
noncomputable def row190 : FRow := ⟨[287], none, false, [], none⟩
noncomputable def row191 : FRow := ⟨[289, 288, 290, 285, 286], none, false, [], none⟩
noncomputable def row192 : FRow := ⟨[289, 288, 285, 286], none, false, [], none⟩
noncomputable def row193 : FRow := ⟨[289, 288, 291, 285, 286], none, false, [], none⟩
noncomputable def row194 : FRow := ⟨[289, 288, 276, 285, 286, 292, 285, 286, 293, 293, 294, 295, 296, 297], none, false, [], none⟩
noncomputable def row195 : FRow := ⟨[289, 288, 285, 289, 288, 286, 298, 288, 285, 286, 293, 293, 294, 297], none, false, [], none⟩
noncomputable def row196 : FRow := ⟨[289, 288, 285, 286, 293, 293, 294, 297], none, false, [], none⟩
noncomputable def row197 : FRow := ⟨[76, 299, 285, 286, 286, 286], none, false, [], none⟩
noncomputable def row198 : FRow := ⟨[289, 285, 286], none, false, [], none⟩
noncomputable def row199 : FRow := ⟨[300, 296], none, false, [], none⟩
noncomputable def row200 : FRow := ⟨[291, 300, 276, 178, 291, 288, 290, 301, 286], none, false, [], none⟩
noncomputable def row201 : FRow := ⟨[285, 78, 78, 78, 78, 78, 286, 286], none, false, [], none⟩
noncomputable def row202 : FRow := ⟨[291, 301], none, false, [], none⟩
noncomputable def row203 : FRow := ⟨[78, 302], none, false, [], none⟩
noncomputable def row204 : FRow := ⟨[288, 77, 302], none, false, [], none⟩
noncomputable def row205 : FRow := ⟨[287, 290, 288, 302], none, false, [], none⟩
noncomputable def row206 : FRow := ⟨[288, 303, 304, 305, 285, 301, 77, 307, 306], none, false, [], none⟩
noncomputable def row207 : FRow := ⟨[288, 288, 299, 308, 305, 285, 77, 307, 306], none, false, [], none⟩
noncomputable def row208 : FRow := ⟨[288, 297, 308, 282, 290, 310, 309, 117, 305, 285, 306], none, false, [], none⟩
noncomputable def row209 : FRow := ⟨[303, 311], none, false, [], none⟩
noncomputable def row210 : FRow := ⟨[76, 299, 312, 313, 311], none, false, [], none⟩
noncomputable def row211 : FRow := ⟨[300, 297, 308, 297], none, false, [], none⟩
noncomputable def row212 : FRow := ⟨[300, 297], none, false, [], none⟩
noncomputable def row213 : FRow := ⟨[300, 290, 315, 314, 316], none, false, [], none⟩
noncomputable def row214 : FRow := ⟨[300, 299, 300, 299, 308, 291, 317, 297, 316], none, false, [], none⟩
noncomputable def row215 : FRow := ⟨[300, 299, 292, 316], none, false, [], none⟩
noncomputable def row216 : FRow := ⟨[300, 290, 300, 299, 300, 291, 310, 309, 117, 318, 302, 301], none, false, [], none⟩
noncomputable def row217 : FRow := ⟨[300, 290, 310, 309, 117, 316], none, false, [], none⟩
noncomputable def row218 : FRow := ⟨[300, 290, 319, 309, 117, 316], none, false, [], none⟩
noncomputable def row219 : FRow := ⟨[300, 290, 300, 290, 320, 309, 117, 316], none, false, [], none⟩
noncomputable def row220 : FRow := ⟨[300, 290, 300, 290, 300, 290, 323, 322, 321, 316], none, false, [], none⟩
noncomputable def row221 : FRow := ⟨[300, 290, 324, 309, 117, 316], none, false, [], none⟩
noncomputable def row222 : FRow := ⟨[], none, false, [], none⟩
noncomputable def row223 : FRow := ⟨[287, 290, 325, 322], none, false, [], none⟩
noncomputable def row224 : FRow := ⟨[287, 299, 326, 178, 291, 301], none, false, [], none⟩
noncomputable def row225 : FRow := ⟨[300, 299, 300, 299, 178, 291, 316, 294], none, false, [], none⟩
noncomputable def row226 : FRow := ⟨[300, 297, 178, 291, 287, 287, 290, 328, 327], none, false, [], none⟩
noncomputable def row227 : FRow := ⟨[297, 285, 286], none, false, [], none⟩
noncomputable def row228 : FRow := ⟨[], none, false, [], none⟩
noncomputable def row229 : FRow := ⟨[230], none, true, [], none⟩
noncomputable def row230 : FRow := ⟨[329], none, false, [], none⟩
noncomputable def row231 : FRow := ⟨[], none, false, [], none⟩
noncomputable def row232 : FRow := ⟨[330, 331], none, true, [], none⟩
noncomputable def row233 : FRow := ⟨[332, 333], none, true, [], none⟩
noncomputable def row234 : FRow := ⟨[], none, false, [], none⟩
noncomputable def row235 : FRow := ⟨[], none, false, [], none⟩
noncomputable def row236 : FRow := ⟨[], none, false, [], none⟩
noncomputable def row237 : FRow := ⟨[235], none, false, [], none⟩
noncomputable def row238 : FRow := ⟨[334, 335, 260, 336], none, false, [], none⟩
noncomputable def row239 : FRow := ⟨[], none, false, [], none⟩
noncomputable def row240 : FRow := ⟨[338, 339], none, false, [], none⟩
noncomputable def row241 : FRow := ⟨[340, 342, 341], none, false, [], none⟩
noncomputable def row242 : FRow := ⟨[343, 344], none, false, [], none⟩
noncomputable def row243 : FRow := ⟨[], some Tryz.f243.name, false, [], none⟩
noncomputable def row244 : FRow := ⟨[], none, false, [], none⟩
noncomputable def row245 : FRow := ⟨[345], none, false, [], none⟩
noncomputable def row246 : FRow := ⟨[346, 347, 348, 347, 349, 350, 351, 351, 352, 348, 353, 353, 354, 355], none, false, [], none⟩
noncomputable def row247 : FRow := ⟨[], none, false, [], none⟩
noncomputable def row248 : FRow := ⟨[115, 356, 356, 356, 356, 356, 357, 102, 358, 358, 358, 45, 102, 45], none, false, [], none⟩
noncomputable def row249 : FRow := ⟨[], none, false, [], none⟩
noncomputable def row250 : FRow := ⟨[361, 360, 359], none, false, [], none⟩
noncomputable def row251 : FRow := ⟨[252, 252, 167, 167, 167, 167, 167, 167, 167, 167, 167, 167, 167], none, false, [], none⟩
noncomputable def row252 : FRow := ⟨[], none, false, [], none⟩
noncomputable def row253 : FRow := ⟨[], none, false, [], none⟩
noncomputable def row254 : FRow := ⟨[165, 362, 363, 364], none, false, [], none⟩
noncomputable def row255 : FRow := ⟨[256], none, false, [], none⟩
noncomputable def row256 : FRow := ⟨[], none, false, [], none⟩
noncomputable def row257 : FRow := ⟨[], none, false, [], none⟩
noncomputable def row258 : FRow := ⟨[], none, true, [], none⟩
noncomputable def row259 : FRow := ⟨[], none, false, [], none⟩
noncomputable def row260 : FRow := ⟨[365], none, false, [], none⟩
noncomputable def row261 : FRow := ⟨[366], none, false, [], none⟩
noncomputable def row262 : FRow := ⟨[256], none, false, [], none⟩
noncomputable def row263 : FRow := ⟨[256], none, false, [], none⟩
noncomputable def row264 : FRow := ⟨[257], none, false, [], none⟩
noncomputable def row265 : FRow := ⟨[257], none, false, [], none⟩
noncomputable def row266 : FRow := ⟨[256], none, false, [], none⟩
noncomputable def row267 : FRow := ⟨[256], none, false, [], none⟩
noncomputable def row268 : FRow := ⟨[256], none, false, [], none⟩
noncomputable def row269 : FRow := ⟨[256], none, false, [], none⟩
noncomputable def row270 : FRow := ⟨[256], none, false, [], none⟩
noncomputable def row271 : FRow := ⟨[256], none, false, [], none⟩
noncomputable def row272 : FRow := ⟨[256], none, false, [], none⟩
noncomputable def row273 : FRow := ⟨[], none, false, [], none⟩
noncomputable def row274 : FRow := ⟨[], none, false, [], none⟩
noncomputable def row275 : FRow := ⟨[], none, true, [], none⟩
noncomputable def row276 : FRow := ⟨[178, 367], none, false, [], none⟩
noncomputable def row277 : FRow := ⟨[178], none, false, [], none⟩
noncomputable def row278 : FRow := ⟨[178, 178, 368], none, false, [], none⟩
noncomputable def row279 : FRow := ⟨[282, 369, 183], none, false, [], none⟩
noncomputable def row280 : FRow := ⟨[371, 370], none, false, [], none⟩
noncomputable def row281 : FRow := ⟨[], none, false, [], none⟩
noncomputable def row282 : FRow := ⟨[], none, false, [], none⟩
noncomputable def row283 : FRow := ⟨[50], none, false, [], none⟩
noncomputable def row284 : FRow := ⟨[], none, false, [], none⟩
noncomputable def row285 : FRow := ⟨[372], none, false, [], none⟩
noncomputable def row286 : FRow := ⟨[302], none, false, [], none⟩
noncomputable def row287 : FRow := ⟨[300, 301], none, false, [], none⟩
noncomputable def row288 : FRow := ⟨[291], none, false, [], none⟩
noncomputable def row289 : FRow := ⟨[326], none, false, [], none⟩
noncomputable def row290 : FRow := ⟨[276, 291], none, false, [], none⟩
noncomputable def row291 : FRow := ⟨[], none, false, [], none⟩
noncomputable def row292 : FRow := ⟨[297, 318], none, false, [], none⟩
noncomputable def row293 : FRow := ⟨[178, 291], none, false, [], none⟩
noncomputable def row294 : FRow := ⟨[326, 285, 301, 78, 78, 78, 78, 78, 286], none, false, [], none⟩
noncomputable def row295 : FRow := ⟨[], none, false, [], none⟩
noncomputable def row296 : FRow := ⟨[183, 373, 291, 295, 297, 298, 297, 297, 291, 285, 284, 301, 78, 78, 78, 78, 78, 286, 286, 77, 286, 286], none, false, [], none⟩
noncomputable def row297 : FRow := ⟨[], none, false, [], none⟩
noncomputable def row298 : FRow := ⟨[178, 291, 326], none, false, [], none⟩
noncomputable def row299 : FRow := ⟨[291], none, false, [], none⟩
noncomputable def row300 : FRow := ⟨[291], none, false, [], none⟩
noncomputable def row301 : FRow := ⟨[302], none, false, [], none⟩
noncomputable def row302 : FRow := ⟨[], none, false, [], none⟩
noncomputable def row303 : FRow := ⟨[300, 299, 300, 299], none, false, [], none⟩
noncomputable def row304 : FRow := ⟨[368, 297], none, false, [], none⟩
noncomputable def row305 : FRow := ⟨[], none, false, [], none⟩
noncomputable def row306 : FRow := ⟨[78, 286, 374, 286, 286, 302], none, false, [], none⟩
noncomputable def row307 : FRow := ⟨[115], none, false, [], none⟩
noncomputable def row308 : FRow := ⟨[76, 178, 277, 178, 78, 291, 278, 279, 291], none, false, [], none⟩
noncomputable def row309 : FRow := ⟨[375], none, false, [], none⟩
noncomputable def row310 : FRow := ⟨[181, 182, 376, 377], none, false, [], none⟩
noncomputable def row311 : FRow := ⟨[304, 76, 312, 378, 301, 305, 285, 301, 77, 307, 312, 379, 282, 178, 302, 305, 374, 302, 78, 302], none, false, [], none⟩
noncomputable def row312 : FRow := ⟨[76, 308], none, false, [], none⟩
noncomputable def row313 : FRow := ⟨[], none, false, [], none⟩
noncomputable def row314 : FRow := ⟨[375], none, false, [], none⟩
noncomputable def row315 : FRow := ⟨[380, 376, 377], none, false, [], none⟩
noncomputable def row316 : FRow := ⟨[301, 286], none, false, [], none⟩
noncomputable def row317 : FRow := ⟨[381, 382], none, false, [], none⟩
noncomputable def row318 : FRow := ⟨[383, 290, 291], none, false, [], none⟩
noncomputable def row319 : FRow := ⟨[181, 274, 376, 274, 384, 385], none, false, [], none⟩
noncomputable def row320 : FRow := ⟨[181, 386, 274, 376], none, true, [], none⟩
noncomputable def row321 : FRow := ⟨[117], none, false, [], none⟩
noncomputable def row322 : FRow := ⟨[375], none, false, [], none⟩
noncomputable def row323 : FRow := ⟨[387, 376, 388, 389, 390], none, false, [], none⟩
noncomputable def row324 : FRow := ⟨[181, 274, 376, 388, 389, 391, 389, 385, 393, 392, 391], none, false, [], none⟩
noncomputable def row325 : FRow := ⟨[387, 376, 274], none, false, [], none⟩
noncomputable def row326 : FRow := ⟨[394, 291], none, false, [], none⟩
noncomputable def row327 : FRow := ⟨[375], none, false, [], none⟩
noncomputable def row328 : FRow := ⟨[395, 182, 376, 377, 397, 396], none, false, [], none⟩
noncomputable def row329 : FRow := ⟨[], none, true, [], none⟩
noncomputable def row330 : FRow := ⟨[], none, false, [], none⟩
noncomputable def row331 : FRow := ⟨[398, 399, 400, 401, 402, 87, 87, 403, 404, 405, 406, 87], none, true, [], none⟩
noncomputable def row332 : FRow := ⟨[], none, false, [], none⟩
noncomputable def row333 : FRow := ⟨[45, 407, 408, 409, 410, 411, 412, 92, 92, 413, 414, 415, 416, 92], none, true, [], none⟩
noncomputable def row334 : FRow := ⟨[], none, false, [], none⟩
noncomputable def row335 : FRow := ⟨[418, 417], none, false, [], none⟩
noncomputable def row336 : FRow := ⟨[337], none, false, [], none⟩
noncomputable def row337 : FRow := ⟨[334, 419], none, false, [], none⟩
noncomputable def row338 : FRow := ⟨[420], none, false, [], none⟩
noncomputable def row339 : FRow := ⟨[238], none, false, [], none⟩
noncomputable def row340 : FRow := ⟨[238, 235, 235, 235], none, false, [], none⟩
noncomputable def row341 : FRow := ⟨[421], none, false, [], none⟩
noncomputable def row342 : FRow := ⟨[], none, false, [], none⟩
noncomputable def row343 : FRow := ⟨[422], none, false, [], none⟩
noncomputable def row344 : FRow := ⟨[], none, false, [], none⟩
noncomputable def row345 : FRow := ⟨[423], none, false, [], none⟩
noncomputable def row346 : FRow := ⟨[424], none, false, [], none⟩
noncomputable def row347 : FRow := ⟨[352, 352, 426, 425, 426, 425], none, false, [], none⟩
noncomputable def row348 : FRow := ⟨[], none, false, [], none⟩
noncomputable def row349 : FRow := ⟨[427, 428, 428, 352, 352, 348, 429, 350], none, false, [], none⟩
noncomputable def row350 : FRow := ⟨[430], none, false, [], none⟩
noncomputable def row351 : FRow := ⟨[432, 431], none, false, [], none⟩
noncomputable def row352 : FRow := ⟨[430], none, false, [], none⟩
noncomputable def row353 : FRow := ⟨[], none, false, [], none⟩
noncomputable def row354 : FRow := ⟨[434], none, false, [], none⟩
noncomputable def row355 : FRow := ⟨[435, 436, 437, 438], none, false, [], none⟩
noncomputable def row356 : FRow := ⟨[439], none, false, [], none⟩
noncomputable def row357 : FRow := ⟨[156, 440], none, false, [], none⟩
noncomputable def row358 : FRow := ⟨[], none, false, [], none⟩
noncomputable def row359 : FRow := ⟨[441, 442], none, false, [], none⟩
noncomputable def row360 : FRow := ⟨[443], none, false, [], none⟩
noncomputable def row361 : FRow := ⟨[444, 444, 444, 445, 446, 446, 446, 447], none, false, [], none⟩
noncomputable def row362 : FRow := ⟨[], none, false, [], none⟩
noncomputable def row363 : FRow := ⟨[167], none, false, [], none⟩
noncomputable def row364 : FRow := ⟨[167, 448], none, true, [], none⟩
noncomputable def row365 : FRow := ⟨[], none, true, [], none⟩
noncomputable def row366 : FRow := ⟨[256], none, false, [], none⟩
noncomputable def row367 : FRow := ⟨[391, 244, 449, 236, 384], none, false, [], none⟩
noncomputable def row368 : FRow := ⟨[381, 450], none, false, [], none⟩
noncomputable def row369 : FRow := ⟨[276], none, false, [], none⟩
noncomputable def row370 : FRow := ⟨[451, 452, 453, 454, 455, 456, 457, 458, 370, 370], none, true, [], none⟩
noncomputable def row371 : FRow := ⟨[459, 460], none, false, [], none⟩
noncomputable def row372 : FRow := ⟨[185, 76, 461, 282, 462, 78, 78, 302, 282, 178, 302, 302], none, true, [], none⟩
noncomputable def row373 : FRow := ⟨[], none, false, [], none⟩
noncomputable def row374 : FRow := ⟨[], none, false, [], none⟩
noncomputable def row375 : FRow := ⟨[], none, false, [], none⟩
noncomputable def row376 : FRow := ⟨[367, 274], none, false, [], none⟩
noncomputable def row377 : FRow := ⟨[274, 463, 449, 464, 392, 391], none, false, [], none⟩
noncomputable def row378 : FRow := ⟨[], none, false, [], none⟩
noncomputable def row379 : FRow := ⟨[282, 290, 465, 291, 117], none, false, [], none⟩
noncomputable def row380 : FRow := ⟨[], none, false, [], none⟩
noncomputable def row381 : FRow := ⟨[466, 450], none, false, [], none⟩
noncomputable def row382 : FRow := ⟨[467], none, false, [], none⟩
noncomputable def row383 : FRow := ⟨[178, 178, 291], none, false, [], none⟩
noncomputable def row384 : FRow := ⟨[], none, false, [], none⟩
noncomputable def row385 : FRow := ⟨[468, 392, 391, 470, 469, 449], none, false, [], none⟩
noncomputable def row386 : FRow := ⟨[471, 472, 473, 474, 475, 476, 477, 478, 479, 480, 481, 482, 483, 484, 485, 486], none, false, [], none⟩
noncomputable def row387 : FRow := ⟨[], none, false, [], none⟩
noncomputable def row388 : FRow := ⟨[274], none, false, [], none⟩
noncomputable def row389 : FRow := ⟨[391, 390], none, false, [], none⟩
noncomputable def row390 : FRow := ⟨[388, 487, 392, 463, 463, 488, 392], none, false, [], none⟩
noncomputable def row391 : FRow := ⟨[], none, false, [], none⟩
noncomputable def row392 : FRow := ⟨[], none, false, [], none⟩
noncomputable def row393 : FRow := ⟨[236, 490, 489], none, false, [], none⟩
noncomputable def row394 : FRow := ⟨[491], none, true, [], none⟩
noncomputable def row395 : FRow := ⟨[], none, false, [], none⟩
noncomputable def row396 : FRow := ⟨[], none, false, [], none⟩
noncomputable def row397 : FRow := ⟨[395, 376, 157, 396, 158, 396], none, false, [], none⟩
noncomputable def row398 : FRow := ⟨[492, 494, 493, 495, 496, 497, 498, 499, 231], none, true, [], none⟩
noncomputable def row399 : FRow := ⟨[492, 494, 502, 503, 497, 498, 404, 231, 502, 399, 319, 500, 399, 399, 320, 500, 504, 399, 231, 505, 500], none, true, [], none⟩
noncomputable def row400 : FRow := ⟨[506], none, false, [], none⟩
noncomputable def row401 : FRow := ⟨[492, 494, 404, 496, 401, 504, 401, 231], none, true, [], none⟩
noncomputable def row402 : FRow := ⟨[399, 325, 500], none, false, [], none⟩
noncomputable def row403 : FRow := ⟨[507, 508, 509, 510, 399, 323, 500, 511, 402], none, true, [], none⟩
noncomputable def row404 : FRow := ⟨[492, 494], none, false, [], none⟩
noncomputable def row405 : FRow := ⟨[512, 361, 231, 231], none, true, [], none⟩
noncomputable def row406 : FRow := ⟨[128, 231, 129, 513, 130], none, false, [], none⟩
noncomputable def row407 : FRow := ⟨[], none, false, [], none⟩
noncomputable def row408 : FRow := ⟨[514, 515, 516, 517, 518, 497, 519, 88], none, true, [], none⟩
noncomputable def row409 : FRow := ⟨[514, 515, 520, 521, 497, 519, 414, 88, 520, 409, 319, 522, 409, 409, 320, 522, 523, 409, 88, 505, 522], none, true, [], none⟩
noncomputable def row410 : FRow := ⟨[524], none, false, [], none⟩
noncomputable def row411 : FRow := ⟨[514, 515, 414, 518, 411, 523, 411, 88], none, true, [], none⟩
noncomputable def row412 : FRow := ⟨[409, 325, 522], none, false, [], none⟩
noncomputable def row413 : FRow := ⟨[525, 526, 527, 528, 409, 323, 522, 529, 412], none, true, [], none⟩
noncomputable def row414 : FRow := ⟨[514, 515], none, false, [], none⟩
noncomputable def row415 : FRow := ⟨[530, 531, 88, 88], none, true, [], none⟩
noncomputable def row416 : FRow := ⟨[135, 88, 136, 532, 137], none, false, [], none⟩
noncomputable def row417 : FRow := ⟨[533], none, false, [], none⟩
noncomputable def row418 : FRow := ⟨[534], none, false, [], none⟩
noncomputable def row419 : FRow := ⟨[], none, false, [], none⟩
noncomputable def row420 : FRow := ⟨[], none, true, [], none⟩
noncomputable def row421 : FRow := ⟨[], none, true, [], none⟩
noncomputable def row422 : FRow := ⟨[], none, true, [], none⟩
noncomputable def row423 : FRow := ⟨[535, 536, 537, 538], none, false, [], none⟩
noncomputable def row424 : FRow := ⟨[430], none, false, [], none⟩
noncomputable def row425 : FRow := ⟨[430], none, false, [], none⟩
noncomputable def row426 : FRow := ⟨[539, 425, 425], none, false, [], none⟩
noncomputable def row427 : FRow := ⟨[], none, false, [], none⟩
noncomputable def row428 : FRow := ⟨[], none, false, [], none⟩
noncomputable def row429 : FRow := ⟨[427, 430], none, false, [], none⟩
noncomputable def row430 : FRow := ⟨[], none, false, [], none⟩
noncomputable def row431 : FRow := ⟨[540], none, true, [], none⟩
noncomputable def row432 : FRow := ⟨[433], none, false, [], none⟩
noncomputable def row433 : FRow := ⟨[426, 425, 541, 426, 541], none, false, [], none⟩
noncomputable def row434 : FRow := ⟨[535, 536, 537, 538], none, false, [], none⟩
noncomputable def row435 : FRow := ⟨[], none, false, [], none⟩
noncomputable def row436 : FRow := ⟨[], none, false, [], none⟩
noncomputable def row437 : FRow := ⟨[542], none, false, [], none⟩
noncomputable def row438 : FRow := ⟨[543, 544], none, false, [], none⟩
noncomputable def row439 : FRow := ⟨[], none, false, [], none⟩
noncomputable def row440 : FRow := ⟨[545], none, false, [], none⟩
noncomputable def row441 : FRow := ⟨[546], none, false, [], none⟩
noncomputable def row442 : FRow := ⟨[371, 547], none, false, [], none⟩
noncomputable def row443 : FRow := ⟨[], none, true, [], none⟩
noncomputable def row444 : FRow := ⟨[548], none, false, [], none⟩
noncomputable def row445 : FRow := ⟨[231], none, false, [], none⟩
noncomputable def row446 : FRow := ⟨[549], none, false, [], none⟩
noncomputable def row447 : FRow := ⟨[492, 231, 102], none, false, [], none⟩
noncomputable def row448 : FRow := ⟨[550, 551, 552, 553, 554, 555, 556], none, false, [], none⟩
noncomputable def row449 : FRow := ⟨[], none, false, [], none⟩
noncomputable def row450 : FRow := ⟨[], none, false, [], none⟩
noncomputable def row451 : FRow := ⟨[], none, true, [], none⟩
noncomputable def row452 : FRow := ⟨[557, 557], none, false, [], none⟩
noncomputable def row453 : FRow := ⟨[558, 559], none, false, [], none⟩
noncomputable def row454 : FRow := ⟨[560, 560, 560, 561], none, false, [], none⟩
noncomputable def row455 : FRow := ⟨[], none, false, [], none⟩
noncomputable def row456 : FRow := ⟨[], none, true, [], none⟩
noncomputable def row457 : FRow := ⟨[], none, true, [], none⟩
noncomputable def row458 : FRow := ⟨[], none, true, [], none⟩
noncomputable def row459 : FRow := ⟨[], none, false, [], none⟩
noncomputable def row460 : FRow := ⟨[], none, false, [], none⟩
noncomputable def row461 : FRow := ⟨[562], none, false, [], none⟩
noncomputable def row462 : FRow := ⟨[302], none, false, [], none⟩
noncomputable def row463 : FRow := ⟨[563], none, false, [], none⟩
noncomputable def row464 : FRow := ⟨[236, 490, 489, 490, 489], none, false, [], none⟩
noncomputable def row465 : FRow := ⟨[564, 381, 565, 566, 567, 568, 569, 570, 568, 569], none, true, [], none⟩
noncomputable def row466 : FRow := ⟨[571, 573, 572], none, false, [], none⟩
noncomputable def row467 : FRow := ⟨[450], none, false, [], none⟩
noncomputable def row468 : FRow := ⟨[574, 575], none, false, [], none⟩
noncomputable def row469 : FRow := ⟨[], none, false, [], none⟩
noncomputable def row470 : FRow := ⟨[236, 247], none, false, [], none⟩
noncomputable def row471 : FRow := ⟨[576, 577, 578], none, false, [], none⟩
noncomputable def row472 : FRow := ⟨[576, 579, 580], none, false, [], none⟩
noncomputable def row473 : FRow := ⟨[576, 581, 582], none, false, [], none⟩
noncomputable def row474 : FRow := ⟨[388, 389, 274, 463, 463, 583, 469, 449], none, false, [], none⟩
noncomputable def row475 : FRow := ⟨[274, 584, 392, 391], none, false, [], none⟩
noncomputable def row476 : FRow := ⟨[388, 274, 389, 274, 585, 392, 391, 463, 586, 469, 449], none, false, [], none⟩
noncomputable def row477 : FRow := ⟨[390, 384], none, false, [], none⟩
noncomputable def row478 : FRow := ⟨[390, 384], none, false, [], none⟩
noncomputable def row479 : FRow := ⟨[390, 384], none, false, [], none⟩
noncomputable def row480 : FRow := ⟨[390, 384], none, false, [], none⟩
noncomputable def row481 : FRow := ⟨[390, 384], none, false, [], none⟩
noncomputable def row482 : FRow := ⟨[390, 384], none, false, [], none⟩
noncomputable def row483 : FRow := ⟨[587, 384], none, false, [], none⟩
noncomputable def row484 : FRow := ⟨[587, 384], none, false, [], none⟩
noncomputable def row485 : FRow := ⟨[587, 384], none, false, [], none⟩
noncomputable def row486 : FRow := ⟨[587, 384], none, false, [], none⟩
noncomputable def row487 : FRow := ⟨[588, 589], none, false, [], none⟩
noncomputable def row488 : FRow := ⟨[591, 593, 593, 592], none, false, [], none⟩
noncomputable def row489 : FRow := ⟨[], none, false, [], none⟩
noncomputable def row490 : FRow := ⟨[], none, false, [], none⟩
noncomputable def row491 : FRow := ⟨[594], none, false, [], none⟩
noncomputable def row492 : FRow := ⟨[494], none, false, [], none⟩
noncomputable def row493 : FRow := ⟨[595, 231, 596], none, false, [], none⟩
noncomputable def row494 : FRow := ⟨[361], none, false, [], none⟩
noncomputable def row495 : FRow := ⟨[404, 231, 231], none, false, [], none⟩
noncomputable def row496 : FRow := ⟨[399, 315, 500], none, false, [], none⟩
noncomputable def row497 : FRow := ⟨[564, 382], none, false, [], none⟩
noncomputable def row498 : FRow := ⟨[231, 231], none, false, [], none⟩
noncomputable def row499 : FRow := ⟨[310, 500, 501], none, false, [], none⟩
noncomputable def row500 : FRow := ⟨[375, 231], none, false, [], none⟩
noncomputable def row501 : FRow := ⟨[564, 382, 367, 310, 567], none, false, [], none⟩
noncomputable def row502 : FRow := ⟨[231, 361, 231, 231, 405], none, false, [], none⟩
noncomputable def row503 : FRow := ⟨[495, 496], none, false, [], none⟩
noncomputable def row504 : FRow := ⟨[402], none, false, [], none⟩
noncomputable def row505 : FRow := ⟨[181, 597, 274, 391, 449, 384, 505, 598, 385], none, false, [], none⟩
noncomputable def row506 : FRow := ⟨[], none, true, [], none⟩
noncomputable def row507 : FRow := ⟨[398], none, true, [], none⟩
noncomputable def row508 : FRow := ⟨[399], none, false, [], none⟩
noncomputable def row509 : FRow := ⟨[87], none, false, [], none⟩
noncomputable def row510 : FRow := ⟨[], none, true, [], none⟩
noncomputable def row511 : FRow := ⟨[399, 320, 500], none, true, [], none⟩
noncomputable def row512 : FRow := ⟨[231, 231, 128, 127, 231, 599, 87], none, false, [], none⟩
noncomputable def row513 : FRow := ⟨[496, 127, 600], none, false, [], none⟩
noncomputable def row514 : FRow := ⟨[515], none, false, [], none⟩
noncomputable def row515 : FRow := ⟨[531], none, false, [], none⟩
noncomputable def row516 : FRow := ⟨[], none, false, [], none⟩
noncomputable def row517 : FRow := ⟨[414, 88, 88], none, false, [], none⟩
noncomputable def row518 : FRow := ⟨[409, 315, 522], none, false, [], none⟩
noncomputable def row519 : FRow := ⟨[88, 88], none, false, [], none⟩
noncomputable def row520 : FRow := ⟨[88, 531, 88, 88, 415], none, false, [], none⟩
noncomputable def row521 : FRow := ⟨[517, 518], none, false, [], none⟩
noncomputable def row522 : FRow := ⟨[375, 88], none, false, [], none⟩
noncomputable def row523 : FRow := ⟨[412], none, false, [], none⟩
noncomputable def row524 : FRow := ⟨[], none, true, [], none⟩
noncomputable def row525 : FRow := ⟨[408], none, true, [], none⟩
noncomputable def row526 : FRow := ⟨[409], none, false, [], none⟩
noncomputable def row527 : FRow := ⟨[92], none, false, [], none⟩
noncomputable def row528 : FRow := ⟨[], none, true, [], none⟩
noncomputable def row529 : FRow := ⟨[409, 320, 522], none, true, [], none⟩
noncomputable def row530 : FRow := ⟨[88, 88, 601, 602, 135, 134, 88, 603, 92], none, true, [], none⟩
noncomputable def row531 : FRow := ⟨[604, 604, 604, 605, 606, 606, 606, 607], none, false, [], none⟩
noncomputable def row532 : FRow := ⟨[518, 134, 608], none, false, [], none⟩
noncomputable def row533 : FRow := ⟨[], none, false, [], none⟩
noncomputable def row534 : FRow := ⟨[609, 610], none, false, [2, 2, 2, 2], none⟩
noncomputable def row535 : FRow := ⟨[], none, false, [], none⟩
noncomputable def row536 : FRow := ⟨[460, 611, 612], none, false, [3], none⟩
noncomputable def row537 : FRow := ⟨[], none, false, [], none⟩
noncomputable def row538 : FRow := ⟨[613, 614], none, false, [], none⟩
noncomputable def row539 : FRow := ⟨[], none, false, [], none⟩
noncomputable def row540 : FRow := ⟨[], none, false, [], none⟩
noncomputable def row541 : FRow := ⟨[428, 428, 352, 352, 349, 428, 353, 352, 348], none, false, [], none⟩
noncomputable def row542 : FRow := ⟨[], none, false, [], none⟩
noncomputable def row543 : FRow := ⟨[615, 616], none, false, [], none⟩
noncomputable def row544 : FRow := ⟨[617], none, false, [], none⟩
noncomputable def row545 : FRow := ⟨[], some Tryz.f545.name, false, [], none⟩
noncomputable def row546 : FRow := ⟨[], none, true, [], none⟩
noncomputable def row547 : FRow := ⟨[618, 619, 620, 621, 622, 623, 624, 625, 626, 547, 547], none, false, [], none⟩
noncomputable def row548 : FRow := ⟨[399, 324, 500], none, false, [], none⟩
noncomputable def row549 : FRow := ⟨[399, 328, 500, 102], none, false, [], none⟩
noncomputable def row550 : FRow := ⟨[627, 628, 167], none, false, [], none⟩
noncomputable def row551 : FRow := ⟨[629, 167], none, false, [], none⟩
noncomputable def row552 : FRow := ⟨[628, 630, 172, 630, 172], none, true, [], none⟩
noncomputable def row553 : FRow := ⟨[631, 632, 633, 634, 252, 628, 167, 630, 636, 167, 252, 630, 167, 630, 172, 167, 167, 167, 630, 167, 167], none, true, [], none⟩
noncomputable def row554 : FRow := ⟨[638, 637, 167], none, false, [], none⟩
noncomputable def row555 : FRow := ⟨[110, 167, 639, 168, 640, 170, 167], none, false, [], none⟩
noncomputable def row556 : FRow := ⟨[254], none, false, [], none⟩
noncomputable def row557 : FRow := ⟨[], none, true, [], none⟩
noncomputable def row558 : FRow := ⟨[371], none, false, [], none⟩
noncomputable def row559 : FRow := ⟨[], none, false, [], none⟩
noncomputable def row560 : FRow := ⟨[561], none, false, [], none⟩
noncomputable def row561 : FRow := ⟨[643, 643, 643], none, false, [], none⟩
noncomputable def row562 : FRow := ⟨[], none, true, [], none⟩
noncomputable def row563 : FRow := ⟨[424, 541, 247], none, false, [], none⟩
noncomputable def row564 : FRow := ⟨[644, 381, 450, 646, 645], none, false, [], none⟩
noncomputable def row565 : FRow := ⟨[], none, true, [], none⟩
noncomputable def row566 : FRow := ⟨[], none, false, [], none⟩
noncomputable def row567 : FRow := ⟨[313, 647], none, false, [], none⟩
noncomputable def row568 : FRow := ⟨[648], none, false, [], none⟩
noncomputable def row569 : FRow := ⟨[], none, false, [], none⟩
noncomputable def row570 : FRow := ⟨[450, 116, 313, 649], none, false, [], none⟩
noncomputable def row571 : FRow := ⟨[], none, false, [], none⟩
noncomputable def row572 : FRow := ⟨[650], none, false, [], none⟩
noncomputable def row573 : FRow := ⟨[], none, true, [], none⟩
noncomputable def row574 : FRow := ⟨[244, 651], none, true, [], none⟩
noncomputable def row575 : FRow := ⟨[], none, false, [], none⟩
noncomputable def row576 : FRow := ⟨[388, 392, 391, 463, 463, 469, 449], none, true, [], none⟩
noncomputable def row577 : FRow := ⟨[588, 652], none, false, [], none⟩
noncomputable def row578 : FRow := ⟨[653, 654], none, false, [], none⟩
noncomputable def row579 : FRow := ⟨[588, 655], none, false, [], none⟩
noncomputable def row580 : FRow := ⟨[653, 656], none, false, [], none⟩
noncomputable def row581 : FRow := ⟨[588, 657], none, false, [], none⟩
noncomputable def row582 : FRow := ⟨[653, 658], none, false, [], none⟩
noncomputable def row583 : FRow := ⟨[591, 653, 659], none, false, [], none⟩
noncomputable def row584 : FRow := ⟨[660, 661], none, false, [], none⟩
noncomputable def row585 : FRow := ⟨[662, 244], none, false, [], none⟩
noncomputable def row586 : FRow := ⟨[236, 663, 431, 665, 431], none, false, [], none⟩
noncomputable def row587 : FRow := ⟨[274], none, false, [], none⟩
noncomputable def row588 : FRow := ⟨[662, 651], none, true, [], none⟩
noncomputable def row589 : FRow := ⟨[590], none, false, [], none⟩
noncomputable def row590 : FRow := ⟨[], none, false, [], none⟩
noncomputable def row591 : FRow := ⟨[667, 668], none, false, [], none⟩
noncomputable def row592 : FRow := ⟨[], none, false, [], none⟩
noncomputable def row593 : FRow := ⟨[], none, false, [], none⟩
noncomputable def row594 : FRow := ⟨[], none, true, [], none⟩
noncomputable def row595 : FRow := ⟨[], none, false, [], none⟩
noncomputable def row596 : FRow := ⟨[310, 500], none, false, [], none⟩
noncomputable def row597 : FRow := ⟨[144, 59], none, false, [], none⟩
noncomputable def row598 : FRow := ⟨[], none, false, [], none⟩
noncomputable def row599 : FRow := ⟨[492, 494, 231, 669, 500, 399, 310, 500], none, false, [], none⟩
noncomputable def row600 : FRow := ⟨[670, 498, 378, 465, 498], none, false, [], none⟩
noncomputable def row601 : FRow := ⟨[], none, false, [], none⟩
noncomputable def row602 : FRow := ⟨[], none, false, [], none⟩
noncomputable def row603 : FRow := ⟨[514, 515, 88, 669, 522, 409, 310, 522], none, false, [], none⟩
noncomputable def row604 : FRow := ⟨[671], none, false, [], none⟩
noncomputable def row605 : FRow := ⟨[88], none, false, [], none⟩
noncomputable def row606 : FRow := ⟨[672], none, false, [], none⟩
noncomputable def row607 : FRow := ⟨[514, 88, 102], none, false, [], none⟩
noncomputable def row608 : FRow := ⟨[670, 519, 378, 465, 519], none, false, [], none⟩
noncomputable def row609 : FRow := ⟨[], none, true, [], none⟩
noncomputable def row610 : FRow := ⟨[673], none, false, [5], none⟩
noncomputable def row611 : FRow := ⟨[], none, false, [], none⟩
noncomputable def row612 : FRow := ⟨[], none, false, [], none⟩
noncomputable def row613 : FRow := ⟨[], none, false, [], none⟩
noncomputable def row614 : FRow := ⟨[674, 675], none, false, [], none⟩
noncomputable def row615 : FRow := ⟨[], none, false, [], none⟩
noncomputable def row616 : FRow := ⟨[676], none, false, [], none⟩
noncomputable def row617 : FRow := ⟨[677, 678, 677, 679, 680], none, false, [], none⟩
noncomputable def row618 : FRow := ⟨[624], none, false, [], none⟩
noncomputable def row619 : FRow := ⟨[681, 681], none, false, [], none⟩
noncomputable def row620 : FRow := ⟨[558, 559], none, false, [], none⟩
noncomputable def row621 : FRow := ⟨[682, 682, 682, 683], none, false, [], none⟩
noncomputable def row622 : FRow := ⟨[], none, false, [], none⟩
noncomputable def row623 : FRow := ⟨[624, 624, 624], none, false, [], none⟩
noncomputable def row624 : FRow := ⟨[684, 684], none, false, [], none⟩
noncomputable def row625 : FRow := ⟨[624, 624], none, false, [], none⟩
noncomputable def row626 : FRow := ⟨[624, 624, 624, 624], none, false, [], none⟩
noncomputable def row627 : FRow := ⟨[685, 638, 686, 687, 688, 167, 689, 363, 688, 167, 363], none, false, [], none⟩
noncomputable def row628 : FRow := ⟨[690, 638, 691, 685, 167, 638, 637, 628, 167, 628, 628, 167, 628, 692, 363], none, false, [], none⟩
noncomputable def row629 : FRow := ⟨[638, 693, 688, 167, 363, 638, 694, 167, 363, 628, 167, 167, 629, 692, 363], none, true, [], none⟩
noncomputable def row630 : FRow := ⟨[167, 695], none, false, [], none⟩
noncomputable def row631 : FRow := ⟨[627, 167], none, true, [], none⟩
noncomputable def row632 : FRow := ⟨[], none, false, [], none⟩
noncomputable def row633 : FRow := ⟨[167, 167, 630, 252], none, false, [], none⟩
noncomputable def row634 : FRow := ⟨[635], none, false, [], none⟩
noncomputable def row635 : FRow := ⟨[628], none, false, [], none⟩
noncomputable def row636 : FRow := ⟨[628, 167], none, true, [], none⟩
noncomputable def row637 : FRow := ⟨[696, 697, 694, 698, 167], none, false, [], none⟩
noncomputable def row638 : FRow := ⟨[], none, false, [], none⟩
noncomputable def row639 : FRow := ⟨[], none, false, [], none⟩
noncomputable def row640 : FRow := ⟨[165, 641, 362, 363, 642, 364], none, false, [], none⟩
noncomputable def row641 : FRow := ⟨[632, 167, 632, 699, 700], none, false, [], none⟩
noncomputable def row642 : FRow := ⟨[628, 167, 167, 167, 167, 167], none, false, [], none⟩
noncomputable def row643 : FRow := ⟨[], none, true, [], none⟩
noncomputable def row644 : FRow := ⟨[], none, false, [], none⟩
noncomputable def row645 : FRow := ⟨[701], none, false, [], none⟩
noncomputable def row646 : FRow := ⟨[367], none, false, [], none⟩
noncomputable def row647 : FRow := ⟨[], none, false, [], none⟩
noncomputable def row648 : FRow := ⟨[568], none, true, [], none⟩
noncomputable def row649 : FRow := ⟨[115], none, false, [], none⟩
noncomputable def row650 : FRow := ⟨[], none, true, [], none⟩
noncomputable def row651 : FRow := ⟨[244], none, false, [], none⟩
noncomputable def row652 : FRow := ⟨[], none, false, [], none⟩
noncomputable def row653 : FRow := ⟨[591, 702, 431], none, false, [], none⟩
noncomputable def row654 : FRow := ⟨[346, 352, 346, 352, 350, 541, 247, 348, 429, 541, 247, 429, 541, 247], none, false, [], none⟩
noncomputable def row655 : FRow := ⟨[], none, false, [], none⟩
noncomputable def row656 : FRow := ⟨[247, 654], none, false, [], none⟩
noncomputable def row657 : FRow := ⟨[], none, false, [], none⟩
noncomputable def row658 : FRow := ⟨[346, 346, 425, 541, 247], none, false, [], none⟩
noncomputable def row659 : FRow := ⟨[346, 346, 541, 247], none, false, [], none⟩
noncomputable def row660 : FRow := ⟨[662, 651], none, true, [], none⟩
noncomputable def row661 : FRow := ⟨[], none, false, [], none⟩
noncomputable def row662 : FRow := ⟨[82, 703], none, false, [], none⟩
noncomputable def row663 : FRow := ⟨[664], none, false, [], none⟩
noncomputable def row664 : FRow := ⟨[666, 664, 658, 664, 658], none, false, [], none⟩
noncomputable def row665 : FRow := ⟨[664, 666, 659], none, false, [], none⟩
noncomputable def row666 : FRow := ⟨[563], none, false, [], none⟩
noncomputable def row667 : FRow := ⟨[704], none, false, [], none⟩
noncomputable def row668 : FRow := ⟨[236], none, false, [], none⟩
noncomputable def row669 : FRow := ⟨[564, 644, 706, 705, 313], none, false, [], none⟩
noncomputable def row670 : FRow := ⟨[644, 381, 570], none, false, [], none⟩
noncomputable def row671 : FRow := ⟨[409, 324, 522], none, false, [], none⟩
noncomputable def row672 : FRow := ⟨[409, 328, 522, 102], none, false, [], none⟩
noncomputable def row673 : FRow := ⟨[707, 708], none, false, [], none⟩
noncomputable def row674 : FRow := ⟨[], none, false, [6], none⟩
noncomputable def row675 : FRow := ⟨[], none, false, [7], none⟩
noncomputable def row676 : FRow := ⟨[], none, false, [8, 9], none⟩
noncomputable def row677 : FRow := ⟨[709], none, false, [], none⟩
noncomputable def row678 : FRow := ⟨[], none, false, [], none⟩
noncomputable def row679 : FRow := ⟨[], none, false, [], none⟩
noncomputable def row680 : FRow := ⟨[], some Tryz.f680.name, false, [], entryReads.lookup Tryz.f680.name⟩
noncomputable def row681 : FRow := ⟨[624, 624], none, false, [], none⟩
noncomputable def row682 : FRow := ⟨[683], none, false, [], none⟩
noncomputable def row683 : FRow := ⟨[710, 710, 710], none, false, [], none⟩
noncomputable def row684 : FRow := ⟨[], none, false, [], none⟩
noncomputable def row685 : FRow := ⟨[638, 694, 167, 628, 167, 167], none, true, [], none⟩
noncomputable def row686 : FRow := ⟨[688, 167], none, false, [], none⟩
noncomputable def row687 : FRow := ⟨[167], none, false, [], none⟩
noncomputable def row688 : FRow := ⟨[711], none, false, [], none⟩
noncomputable def row689 : FRow := ⟨[], none, false, [], none⟩
noncomputable def row690 : FRow := ⟨[167, 712, 167, 167, 167], none, false, [], none⟩
noncomputable def row691 : FRow := ⟨[688, 167, 167, 688, 167, 696, 167, 363], none, false, [], none⟩
noncomputable def row692 : FRow := ⟨[628, 630, 630], none, true, [], none⟩
noncomputable def row693 : FRow := ⟨[688, 167, 713, 168], none, false, [], none⟩
noncomputable def row694 : FRow := ⟨[167], none, false, [], none⟩
noncomputable def row695 : FRow := ⟨[252], none, false, [], none⟩
noncomputable def row696 : FRow := ⟨[688, 167], none, false, [], none⟩
noncomputable def row697 : FRow := ⟨[688, 167], none, false, [], none⟩
noncomputable def row698 : FRow := ⟨[690, 714, 167, 638, 715, 167], none, true, [], none⟩
noncomputable def row699 : FRow := ⟨[110, 716], none, false, [], none⟩
noncomputable def row700 : FRow := ⟨[110, 165, 632, 632, 718, 721, 168], none, false, [], none⟩
noncomputable def row701 : FRow := ⟨[], none, true, [], none⟩
noncomputable def row702 : FRow := ⟨[], none, true, [], none⟩
noncomputable def row703 : FRow := ⟨[244], none, false, [], none⟩
noncomputable def row704 : FRow := ⟨[], none, true, [], none⟩
noncomputable def row705 : FRow := ⟨[], none, true, [], none⟩
noncomputable def row706 : FRow := ⟨[310], none, false, [], none⟩
noncomputable def row707 : FRow := ⟨[], none, false, [], none⟩
noncomputable def row708 : FRow := ⟨[], none, false, [], none⟩
noncomputable def row709 : FRow := ⟨[722], none, false, [], none⟩
noncomputable def row710 : FRow := ⟨[624], none, false, [], none⟩
noncomputable def row711 : FRow := ⟨[], none, false, [], none⟩
noncomputable def row712 : FRow := ⟨[], none, false, [], none⟩
noncomputable def row713 : FRow := ⟨[], none, false, [], none⟩
noncomputable def row714 : FRow := ⟨[], none, false, [], none⟩
noncomputable def row715 : FRow := ⟨[110, 723, 628, 726, 685, 727, 629, 728], none, true, [], none⟩
noncomputable def row716 : FRow := ⟨[717, 170], none, false, [], none⟩
noncomputable def row717 : FRow := ⟨[252, 629, 167], none, false, [], none⟩
noncomputable def row718 : FRow := ⟨[719, 170], none, false, [], none⟩
noncomputable def row719 : FRow := ⟨[252, 720, 172, 167], none, false, [], none⟩
noncomputable def row720 : FRow := ⟨[167, 167, 167, 167], none, false, [], none⟩
noncomputable def row721 : FRow := ⟨[], none, false, [], none⟩
noncomputable def row722 : FRow := ⟨[], some Tryz.f722.name, false, [], none⟩
noncomputable def row723 : FRow := ⟨[724], none, false, [], none⟩
noncomputable def row724 : FRow := ⟨[725, 170], none, false, [], none⟩
noncomputable def row725 : FRow := ⟨[252, 167], none, true, [], none⟩
noncomputable def row726 : FRow := ⟨[], none, false, [], none⟩
noncomputable def row727 : FRow := ⟨[], none, false, [], none⟩
noncomputable def row728 : FRow := ⟨[], none, false, [], none⟩
noncomputable def row729 : FRow := ⟨[], some Tryz.f729.name, false, [], none⟩
noncomputable def row730 : FRow := ⟨[], some Tryz.f730.name, false, [], none⟩
noncomputable def row731 : FRow := ⟨[], some Tryz.f731.name, false, [], none⟩
noncomputable def row732 : FRow := ⟨[], some Tryz.f732.name, false, [], none⟩
noncomputable def row733 : FRow := ⟨[], some Tryz.f733.name, false, [], none⟩
noncomputable def row734 : FRow := ⟨[], some Tryz.f734.name, false, [], none⟩
noncomputable def row735 : FRow := ⟨[], some Tryz.f735.name, false, [], none⟩
noncomputable def row736 : FRow := ⟨[], some Tryz.f736.name, false, [], none⟩
noncomputable def row737 : FRow := ⟨[], some Tryz.f737.name, false, [], none⟩
noncomputable def row738 : FRow := ⟨[], some Tryz.f738.name, false, [], none⟩
noncomputable def row739 : FRow := ⟨[], some Tryz.f739.name, false, [], none⟩
noncomputable def row740 : FRow := ⟨[], some Tryz.f740.name, false, [], none⟩
noncomputable def row741 : FRow := ⟨[], some Tryz.f741.name, false, [], none⟩
noncomputable def row742 : FRow := ⟨[], some Tryz.f742.name, false, [], none⟩
noncomputable def row743 : FRow := ⟨[], some Tryz.f743.name, false, [], none⟩
noncomputable def row744 : FRow := ⟨[], some Tryz.f744.name, false, [], none⟩
noncomputable def row745 : FRow := ⟨[310, 522], none, false, [], none⟩
noncomputable def row746 : FRow := ⟨[], some Tryz.f746.name, false, [], none⟩
noncomputable def row747 : FRow := ⟨[689, 688, 167, 696], none, false, [], none⟩
noncomputable def row748 : FRow := ⟨[310, 522], none, false, [], none⟩
noncomputable def row749 : FRow := ⟨[310, 522, 501], none, false, [], none⟩
noncomputable def row750 : FRow := ⟨[688, 167], none, false, [], none⟩
noncomputable def row751 : FRow := ⟨[167], none, false, [], none⟩
noncomputable def row752 : FRow := ⟨[688, 167], none, false, [], none⟩
noncomputable def row753 : FRow := ⟨[], some Tryz.f753.name, false, [], none⟩
noncomputable def row754 : FRow := ⟨[], some Tryz.f754.name, false, [], none⟩
noncomputable def row755 : FRow := ⟨[], some Tryz.f755.name, false, [], none⟩
noncomputable def row756 : FRow := ⟨[], some Tryz.f756.name, false, [], none⟩
noncomputable def row757 : FRow := ⟨[], some Tryz.f757.name, false, [], none⟩
noncomputable def row758 : FRow := ⟨[], some Tryz.f758.name, false, [], none⟩
noncomputable def row759 : FRow := ⟨[], some Tryz.f759.name, false, [], none⟩
noncomputable def row760 : FRow := ⟨[], some Tryz.f760.name, false, [], none⟩
noncomputable def row761 : FRow := ⟨[], some Tryz.f761.name, false, [], none⟩
noncomputable def row762 : FRow := ⟨[], some Tryz.f762.name, false, [], none⟩
noncomputable def row763 : FRow := ⟨[], some Tryz.f763.name, false, [], none⟩
noncomputable def row764 : FRow := ⟨[], some Tryz.f764.name, false, [], none⟩
noncomputable def row765 : FRow := ⟨[], some Tryz.f765.name, false, [], none⟩
noncomputable def row766 : FRow := ⟨[], some Tryz.f766.name, false, [], none⟩
noncomputable def row767 : FRow := ⟨[], some Tryz.f767.name, false, [], none⟩
noncomputable def row768 : FRow := ⟨[], none, false, [6, 7, 3, 9, 10, 10, 5, 2, 1, 0], none⟩
theorem at0 : ∀ y, some row0 = some y → RowAt Pos.H y := row_at rfl Tryz.func0 (by kernel_rfl) (by kernel_rfl)
theorem at1 : ∀ y, some row1 = some y → RowAt (.O Pos.H) y := row_at rfl Tryz.func1 (by kernel_rfl) (by kernel_rfl)
theorem at2 : ∀ y, some row2 = some y → RowAt (.I Pos.H) y := row_at rfl Tryz.func2 (by kernel_rfl) (by kernel_rfl)
theorem at3 : ∀ y, some row3 = some y → RowAt (.O (.O Pos.H)) y := row_at rfl Tryz.func3 (by kernel_rfl) (by kernel_rfl)
theorem at4 : ∀ y, some row4 = some y → RowAt (.I (.O Pos.H)) y := row_at rfl Tryz.func4 (by kernel_rfl) (by kernel_rfl)
theorem at5 : ∀ y, some row5 = some y → RowAt (.O (.I Pos.H)) y := row_at rfl Tryz.func5 (by kernel_rfl) (by kernel_rfl)
theorem at6 : ∀ y, some row6 = some y → RowAt (.I (.I Pos.H)) y := row_at rfl Tryz.func6 (by kernel_rfl) (by kernel_rfl)
theorem at7 : ∀ y, some row7 = some y → RowAt (.O (.O (.O Pos.H))) y := row_at rfl Tryz.func7 (by kernel_rfl) (by kernel_rfl)
theorem at8 : ∀ y, some row8 = some y → RowAt (.I (.O (.O Pos.H))) y := row_at rfl Tryz.func8 (by kernel_rfl) (by kernel_rfl)
theorem at9 : ∀ y, some row9 = some y → RowAt (.O (.I (.O Pos.H))) y := row_at rfl Tryz.func9 (by kernel_rfl) (by kernel_rfl)
theorem at10 : ∀ y, some row10 = some y → RowAt (.I (.I (.O Pos.H))) y := row_at rfl Tryz.func10 (by kernel_rfl) (by kernel_rfl)
theorem at11 : ∀ y, some row11 = some y → RowAt (.O (.O (.I Pos.H))) y := row_at rfl Tryz.func11 (by kernel_rfl) (by kernel_rfl)
theorem at12 : ∀ y, some row12 = some y → RowAt (.I (.O (.I Pos.H))) y := row_at rfl Tryz.func12 (by kernel_rfl) (by kernel_rfl)
theorem at13 : ∀ y, some row13 = some y → RowAt (.O (.I (.I Pos.H))) y := row_at rfl Tryz.func13 (by kernel_rfl) (by kernel_rfl)
theorem at14 : ∀ y, some row14 = some y → RowAt (.I (.I (.I Pos.H))) y := row_at rfl Tryz.func14 (by kernel_rfl) (by kernel_rfl)
theorem at15 : ∀ y, some row15 = some y → RowAt (.O (.O (.O (.O Pos.H)))) y := row_at rfl Tryz.func15 (by kernel_rfl) (by kernel_rfl)
theorem at16 : ∀ y, some row16 = some y → RowAt (.I (.O (.O (.O Pos.H)))) y := row_at rfl Tryz.func16 (by kernel_rfl) (by kernel_rfl)
theorem at17 : ∀ y, some row17 = some y → RowAt (.O (.I (.O (.O Pos.H)))) y := row_at rfl Tryz.func17 (by kernel_rfl) (by kernel_rfl)
theorem at18 : ∀ y, some row18 = some y → RowAt (.I (.I (.O (.O Pos.H)))) y := row_at rfl Tryz.func18 (by kernel_rfl) (by kernel_rfl)
theorem at19 : ∀ y, some row19 = some y → RowAt (.O (.O (.I (.O Pos.H)))) y := row_at rfl Tryz.func19 (by kernel_rfl) (by kernel_rfl)
theorem at20 : ∀ y, some row20 = some y → RowAt (.I (.O (.I (.O Pos.H)))) y := row_at rfl Tryz.func20 (by kernel_rfl) (by kernel_rfl)
theorem at21 : ∀ y, some row21 = some y → RowAt (.O (.I (.I (.O Pos.H)))) y := row_at rfl Tryz.func21 (by kernel_rfl) (by kernel_rfl)
theorem at22 : ∀ y, some row22 = some y → RowAt (.I (.I (.I (.O Pos.H)))) y := row_at rfl Tryz.func22 (by kernel_rfl) (by kernel_rfl)
theorem at23 : ∀ y, some row23 = some y → RowAt (.O (.O (.O (.I Pos.H)))) y := row_at rfl Tryz.func23 (by kernel_rfl) (by kernel_rfl)
theorem at24 : ∀ y, some row24 = some y → RowAt (.I (.O (.O (.I Pos.H)))) y := row_at rfl Tryz.func24 (by kernel_rfl) (by kernel_rfl)
theorem at25 : ∀ y, some row25 = some y → RowAt (.O (.I (.O (.I Pos.H)))) y := row_at rfl Tryz.func25 (by kernel_rfl) (by kernel_rfl)
theorem at26 : ∀ y, some row26 = some y → RowAt (.I (.I (.O (.I Pos.H)))) y := row_at rfl Tryz.func26 (by kernel_rfl) (by kernel_rfl)
theorem at27 : ∀ y, some row27 = some y → RowAt (.O (.O (.I (.I Pos.H)))) y := row_at rfl Tryz.func27 (by kernel_rfl) (by kernel_rfl)
theorem at28 : ∀ y, some row28 = some y → RowAt (.I (.O (.I (.I Pos.H)))) y := row_at rfl Tryz.func28 (by kernel_rfl) (by kernel_rfl)
theorem at29 : ∀ y, some row29 = some y → RowAt (.O (.I (.I (.I Pos.H)))) y := row_at rfl Tryz.func29 (by kernel_rfl) (by kernel_rfl)
theorem at30 : ∀ y, some row30 = some y → RowAt (.I (.I (.I (.I Pos.H)))) y := row_at rfl Tryz.func30 (by kernel_rfl) (by kernel_rfl)
theorem at31 : ∀ y, some row31 = some y → RowAt (.O (.O (.O (.O (.O Pos.H))))) y := row_at rfl Tryz.func31 (by kernel_rfl) (by kernel_rfl)
theorem at32 : ∀ y, some row32 = some y → RowAt (.I (.O (.O (.O (.O Pos.H))))) y := row_at rfl Tryz.func32 (by kernel_rfl) (by kernel_rfl)
theorem at33 : ∀ y, some row33 = some y → RowAt (.O (.I (.O (.O (.O Pos.H))))) y := row_at rfl Tryz.func33 (by kernel_rfl) (by kernel_rfl)
theorem at34 : ∀ y, some row34 = some y → RowAt (.I (.I (.O (.O (.O Pos.H))))) y := row_at rfl Tryz.func34 (by kernel_rfl) (by kernel_rfl)
theorem at35 : ∀ y, some row35 = some y → RowAt (.O (.O (.I (.O (.O Pos.H))))) y := row_at rfl Tryz.func35 (by kernel_rfl) (by kernel_rfl)
theorem at36 : ∀ y, some row36 = some y → RowAt (.I (.O (.I (.O (.O Pos.H))))) y := row_at rfl Tryz.func36 (by kernel_rfl) (by kernel_rfl)
theorem at37 : ∀ y, some row37 = some y → RowAt (.O (.I (.I (.O (.O Pos.H))))) y := row_at rfl Tryz.func37 (by kernel_rfl) (by kernel_rfl)
theorem at38 : ∀ y, some row38 = some y → RowAt (.I (.I (.I (.O (.O Pos.H))))) y := row_at rfl Tryz.func38 (by kernel_rfl) (by kernel_rfl)
theorem at39 : ∀ y, some row39 = some y → RowAt (.O (.O (.O (.I (.O Pos.H))))) y := row_at rfl Tryz.func39 (by kernel_rfl) (by kernel_rfl)
theorem at40 : ∀ y, some row40 = some y → RowAt (.I (.O (.O (.I (.O Pos.H))))) y := row_at rfl Tryz.func40 (by kernel_rfl) (by kernel_rfl)
theorem at41 : ∀ y, some row41 = some y → RowAt (.O (.I (.O (.I (.O Pos.H))))) y := row_at rfl Tryz.func41 (by kernel_rfl) (by kernel_rfl)
theorem at42 : ∀ y, some row42 = some y → RowAt (.I (.I (.O (.I (.O Pos.H))))) y := row_at rfl Tryz.func42 (by kernel_rfl) (by kernel_rfl)
theorem at43 : ∀ y, some row43 = some y → RowAt (.O (.O (.I (.I (.O Pos.H))))) y := row_at rfl Tryz.func43 (by kernel_rfl) (by kernel_rfl)
theorem at44 : ∀ y, some row44 = some y → RowAt (.I (.O (.I (.I (.O Pos.H))))) y := row_at rfl Tryz.func44 (by kernel_rfl) (by kernel_rfl)
theorem at45 : ∀ y, some row45 = some y → RowAt (.O (.I (.I (.I (.O Pos.H))))) y := row_at rfl Tryz.func45 (by kernel_rfl) (by kernel_rfl)
theorem at46 : ∀ y, some row46 = some y → RowAt (.I (.I (.I (.I (.O Pos.H))))) y := row_at rfl Tryz.func46 (by kernel_rfl) (by kernel_rfl)
theorem at47 : ∀ y, some row47 = some y → RowAt (.O (.O (.O (.O (.I Pos.H))))) y := row_at rfl Tryz.func47 (by kernel_rfl) (by kernel_rfl)
theorem at48 : ∀ y, some row48 = some y → RowAt (.I (.O (.O (.O (.I Pos.H))))) y := row_at rfl Tryz.func48 (by kernel_rfl) (by kernel_rfl)
theorem at49 : ∀ y, some row49 = some y → RowAt (.O (.I (.O (.O (.I Pos.H))))) y := row_at rfl Tryz.func49 (by kernel_rfl) (by kernel_rfl)
theorem at50 : ∀ y, some row50 = some y → RowAt (.I (.I (.O (.O (.I Pos.H))))) y := row_at rfl Tryz.func50 (by kernel_rfl) (by kernel_rfl)
theorem at51 : ∀ y, some row51 = some y → RowAt (.O (.O (.I (.O (.I Pos.H))))) y := row_at rfl Tryz.func51 (by kernel_rfl) (by kernel_rfl)
theorem at52 : ∀ y, some row52 = some y → RowAt (.I (.O (.I (.O (.I Pos.H))))) y := row_at rfl Tryz.func52 (by kernel_rfl) (by kernel_rfl)
theorem at53 : ∀ y, some row53 = some y → RowAt (.O (.I (.I (.O (.I Pos.H))))) y := row_at rfl Tryz.func53 (by kernel_rfl) (by kernel_rfl)
theorem at54 : ∀ y, some row54 = some y → RowAt (.I (.I (.I (.O (.I Pos.H))))) y := row_at rfl Tryz.func54 (by kernel_rfl) (by kernel_rfl)
theorem at55 : ∀ y, some row55 = some y → RowAt (.O (.O (.O (.I (.I Pos.H))))) y := row_at rfl Tryz.func55 (by kernel_rfl) (by kernel_rfl)
theorem at56 : ∀ y, some row56 = some y → RowAt (.I (.O (.O (.I (.I Pos.H))))) y := row_at rfl Tryz.func56 (by kernel_rfl) (by kernel_rfl)
theorem at57 : ∀ y, some row57 = some y → RowAt (.O (.I (.O (.I (.I Pos.H))))) y := row_at rfl Tryz.func57 (by kernel_rfl) (by kernel_rfl)
theorem at58 : ∀ y, some row58 = some y → RowAt (.I (.I (.O (.I (.I Pos.H))))) y := row_at rfl Tryz.func58 (by kernel_rfl) (by kernel_rfl)
theorem at59 : ∀ y, some row59 = some y → RowAt (.O (.O (.I (.I (.I Pos.H))))) y := row_at rfl Tryz.func59 (by kernel_rfl) (by kernel_rfl)
theorem at60 : ∀ y, some row60 = some y → RowAt (.I (.O (.I (.I (.I Pos.H))))) y := row_at rfl Tryz.func60 (by kernel_rfl) (by kernel_rfl)
theorem at61 : ∀ y, some row61 = some y → RowAt (.O (.I (.I (.I (.I Pos.H))))) y := row_at rfl Tryz.func61 (by kernel_rfl) (by kernel_rfl)
theorem at62 : ∀ y, some row62 = some y → RowAt (.I (.I (.I (.I (.I Pos.H))))) y := row_at rfl Tryz.func62 (by kernel_rfl) (by kernel_rfl)
theorem at63 : ∀ y, some row63 = some y → RowAt (.O (.O (.O (.O (.O (.O Pos.H)))))) y := row_at rfl Tryz.func63 (by kernel_rfl) (by kernel_rfl)
theorem at64 : ∀ y, some row64 = some y → RowAt (.I (.O (.O (.O (.O (.O Pos.H)))))) y := row_at rfl Tryz.func64 (by kernel_rfl) (by kernel_rfl)
theorem at65 : ∀ y, some row65 = some y → RowAt (.O (.I (.O (.O (.O (.O Pos.H)))))) y := row_at rfl Tryz.func65 (by kernel_rfl) (by kernel_rfl)
theorem at66 : ∀ y, some row66 = some y → RowAt (.I (.I (.O (.O (.O (.O Pos.H)))))) y := row_at rfl Tryz.func66 (by kernel_rfl) (by kernel_rfl)
theorem at67 : ∀ y, some row67 = some y → RowAt (.O (.O (.I (.O (.O (.O Pos.H)))))) y := row_at rfl Tryz.func67 (by kernel_rfl) (by kernel_rfl)
theorem at68 : ∀ y, some row68 = some y → RowAt (.I (.O (.I (.O (.O (.O Pos.H)))))) y := row_at rfl Tryz.func68 (by kernel_rfl) (by kernel_rfl)
theorem at69 : ∀ y, some row69 = some y → RowAt (.O (.I (.I (.O (.O (.O Pos.H)))))) y := row_at rfl Tryz.func69 (by kernel_rfl) (by kernel_rfl)
theorem at70 : ∀ y, some row70 = some y → RowAt (.I (.I (.I (.O (.O (.O Pos.H)))))) y := row_at rfl Tryz.func70 (by kernel_rfl) (by kernel_rfl)
theorem at71 : ∀ y, some row71 = some y → RowAt (.O (.O (.O (.I (.O (.O Pos.H)))))) y := row_at rfl Tryz.func71 (by kernel_rfl) (by kernel_rfl)
theorem at72 : ∀ y, some row72 = some y → RowAt (.I (.O (.O (.I (.O (.O Pos.H)))))) y := row_at rfl Tryz.func72 (by kernel_rfl) (by kernel_rfl)
theorem at73 : ∀ y, some row73 = some y → RowAt (.O (.I (.O (.I (.O (.O Pos.H)))))) y := row_at rfl Tryz.func73 (by kernel_rfl) (by kernel_rfl)
theorem at74 : ∀ y, some row74 = some y → RowAt (.I (.I (.O (.I (.O (.O Pos.H)))))) y := row_at rfl Tryz.func74 (by kernel_rfl) (by kernel_rfl)
theorem at75 : ∀ y, some row75 = some y → RowAt (.O (.O (.I (.I (.O (.O Pos.H)))))) y := row_at rfl Tryz.func75 (by kernel_rfl) (by kernel_rfl)
theorem at76 : ∀ y, some row76 = some y → RowAt (.I (.O (.I (.I (.O (.O Pos.H)))))) y := row_at rfl Tryz.func76 (by kernel_rfl) (by kernel_rfl)
theorem at77 : ∀ y, some row77 = some y → RowAt (.O (.I (.I (.I (.O (.O Pos.H)))))) y := row_at rfl Tryz.func77 (by kernel_rfl) (by kernel_rfl)
theorem at78 : ∀ y, some row78 = some y → RowAt (.I (.I (.I (.I (.O (.O Pos.H)))))) y := row_at rfl Tryz.func78 (by kernel_rfl) (by kernel_rfl)
theorem at79 : ∀ y, some row79 = some y → RowAt (.O (.O (.O (.O (.I (.O Pos.H)))))) y := row_at rfl Tryz.func79 (by kernel_rfl) (by kernel_rfl)
theorem at80 : ∀ y, some row80 = some y → RowAt (.I (.O (.O (.O (.I (.O Pos.H)))))) y := row_at rfl Tryz.func80 (by kernel_rfl) (by kernel_rfl)
theorem at81 : ∀ y, some row81 = some y → RowAt (.O (.I (.O (.O (.I (.O Pos.H)))))) y := row_at rfl Tryz.func81 (by kernel_rfl) (by kernel_rfl)
theorem at82 : ∀ y, some row82 = some y → RowAt (.I (.I (.O (.O (.I (.O Pos.H)))))) y := row_at rfl Tryz.func82 (by kernel_rfl) (by kernel_rfl)
theorem at83 : ∀ y, some row83 = some y → RowAt (.O (.O (.I (.O (.I (.O Pos.H)))))) y := row_at rfl Tryz.func83 (by kernel_rfl) (by kernel_rfl)
theorem at84 : ∀ y, some row84 = some y → RowAt (.I (.O (.I (.O (.I (.O Pos.H)))))) y := row_at rfl Tryz.func84 (by kernel_rfl) (by kernel_rfl)
theorem at85 : ∀ y, some row85 = some y → RowAt (.O (.I (.I (.O (.I (.O Pos.H)))))) y := row_at rfl Tryz.func85 (by kernel_rfl) (by kernel_rfl)
theorem at86 : ∀ y, some row86 = some y → RowAt (.I (.I (.I (.O (.I (.O Pos.H)))))) y := row_at rfl Tryz.func86 (by kernel_rfl) (by kernel_rfl)
theorem at87 : ∀ y, some row87 = some y → RowAt (.O (.O (.O (.I (.I (.O Pos.H)))))) y := row_at rfl Tryz.func87 (by kernel_rfl) (by kernel_rfl)
theorem at88 : ∀ y, some row88 = some y → RowAt (.I (.O (.O (.I (.I (.O Pos.H)))))) y := row_at rfl Tryz.func88 (by kernel_rfl) (by kernel_rfl)
theorem at89 : ∀ y, some row89 = some y → RowAt (.O (.I (.O (.I (.I (.O Pos.H)))))) y := row_at rfl Tryz.func89 (by kernel_rfl) (by kernel_rfl)
theorem at90 : ∀ y, some row90 = some y → RowAt (.I (.I (.O (.I (.I (.O Pos.H)))))) y := row_at rfl Tryz.func90 (by kernel_rfl) (by kernel_rfl)
theorem at91 : ∀ y, some row91 = some y → RowAt (.O (.O (.I (.I (.I (.O Pos.H)))))) y := row_at rfl Tryz.func91 (by kernel_rfl) (by kernel_rfl)
theorem at92 : ∀ y, some row92 = some y → RowAt (.I (.O (.I (.I (.I (.O Pos.H)))))) y := row_at rfl Tryz.func92 (by kernel_rfl) (by kernel_rfl)
theorem at93 : ∀ y, some row93 = some y → RowAt (.O (.I (.I (.I (.I (.O Pos.H)))))) y := row_at rfl Tryz.func93 (by kernel_rfl) (by kernel_rfl)
theorem at94 : ∀ y, some row94 = some y → RowAt (.I (.I (.I (.I (.I (.O Pos.H)))))) y := row_at rfl Tryz.func94 (by kernel_rfl) (by kernel_rfl)
theorem at95 : ∀ y, some row95 = some y → RowAt (.O (.O (.O (.O (.O (.I Pos.H)))))) y := row_at rfl Tryz.func95 (by kernel_rfl) (by kernel_rfl)
theorem at96 : ∀ y, some row96 = some y → RowAt (.I (.O (.O (.O (.O (.I Pos.H)))))) y := row_at rfl Tryz.func96 (by kernel_rfl) (by kernel_rfl)
theorem at97 : ∀ y, some row97 = some y → RowAt (.O (.I (.O (.O (.O (.I Pos.H)))))) y := row_at rfl Tryz.func97 (by kernel_rfl) (by kernel_rfl)
theorem at98 : ∀ y, some row98 = some y → RowAt (.I (.I (.O (.O (.O (.I Pos.H)))))) y := row_at rfl Tryz.func98 (by kernel_rfl) (by kernel_rfl)
theorem at99 : ∀ y, some row99 = some y → RowAt (.O (.O (.I (.O (.O (.I Pos.H)))))) y := row_at rfl Tryz.func99 (by kernel_rfl) (by kernel_rfl)
theorem at100 : ∀ y, some row100 = some y → RowAt (.I (.O (.I (.O (.O (.I Pos.H)))))) y := row_at rfl Tryz.func100 (by kernel_rfl) (by kernel_rfl)
theorem at101 : ∀ y, some row101 = some y → RowAt (.O (.I (.I (.O (.O (.I Pos.H)))))) y := row_at rfl Tryz.func101 (by kernel_rfl) (by kernel_rfl)
theorem at102 : ∀ y, some row102 = some y → RowAt (.I (.I (.I (.O (.O (.I Pos.H)))))) y := row_at rfl Tryz.func102 (by kernel_rfl) (by kernel_rfl)
theorem at103 : ∀ y, some row103 = some y → RowAt (.O (.O (.O (.I (.O (.I Pos.H)))))) y := row_at rfl Tryz.func103 (by kernel_rfl) (by kernel_rfl)
theorem at104 : ∀ y, some row104 = some y → RowAt (.I (.O (.O (.I (.O (.I Pos.H)))))) y := row_at rfl Tryz.func104 (by kernel_rfl) (by kernel_rfl)
theorem at105 : ∀ y, some row105 = some y → RowAt (.O (.I (.O (.I (.O (.I Pos.H)))))) y := row_at rfl Tryz.func105 (by kernel_rfl) (by kernel_rfl)
theorem at106 : ∀ y, some row106 = some y → RowAt (.I (.I (.O (.I (.O (.I Pos.H)))))) y := row_at rfl Tryz.func106 (by kernel_rfl) (by kernel_rfl)
theorem at107 : ∀ y, some row107 = some y → RowAt (.O (.O (.I (.I (.O (.I Pos.H)))))) y := row_at rfl Tryz.func107 (by kernel_rfl) (by kernel_rfl)
theorem at108 : ∀ y, some row108 = some y → RowAt (.I (.O (.I (.I (.O (.I Pos.H)))))) y := row_at rfl Tryz.func108 (by kernel_rfl) (by kernel_rfl)
theorem at109 : ∀ y, some row109 = some y → RowAt (.O (.I (.I (.I (.O (.I Pos.H)))))) y := row_at rfl Tryz.func109 (by kernel_rfl) (by kernel_rfl)
theorem at110 : ∀ y, some row110 = some y → RowAt (.I (.I (.I (.I (.O (.I Pos.H)))))) y := row_at rfl Tryz.func110 (by kernel_rfl) (by kernel_rfl)
theorem at111 : ∀ y, some row111 = some y → RowAt (.O (.O (.O (.O (.I (.I Pos.H)))))) y := row_at rfl Tryz.func111 (by kernel_rfl) (by kernel_rfl)
theorem at112 : ∀ y, some row112 = some y → RowAt (.I (.O (.O (.O (.I (.I Pos.H)))))) y := row_at rfl Tryz.func112 (by kernel_rfl) (by kernel_rfl)
theorem at113 : ∀ y, some row113 = some y → RowAt (.O (.I (.O (.O (.I (.I Pos.H)))))) y := row_at rfl Tryz.func113 (by kernel_rfl) (by kernel_rfl)
theorem at114 : ∀ y, some row114 = some y → RowAt (.I (.I (.O (.O (.I (.I Pos.H)))))) y := row_at rfl Tryz.func114 (by kernel_rfl) (by kernel_rfl)
theorem at115 : ∀ y, some row115 = some y → RowAt (.O (.O (.I (.O (.I (.I Pos.H)))))) y := row_at rfl Tryz.func115 (by kernel_rfl) (by kernel_rfl)
theorem at116 : ∀ y, some row116 = some y → RowAt (.I (.O (.I (.O (.I (.I Pos.H)))))) y := row_at rfl Tryz.func116 (by kernel_rfl) (by kernel_rfl)
theorem at117 : ∀ y, some row117 = some y → RowAt (.O (.I (.I (.O (.I (.I Pos.H)))))) y := row_at rfl Tryz.func117 (by kernel_rfl) (by kernel_rfl)
theorem at118 : ∀ y, some row118 = some y → RowAt (.I (.I (.I (.O (.I (.I Pos.H)))))) y := row_at rfl Tryz.func118 (by kernel_rfl) (by kernel_rfl)
theorem at119 : ∀ y, some row119 = some y → RowAt (.O (.O (.O (.I (.I (.I Pos.H)))))) y := row_at rfl Tryz.func119 (by kernel_rfl) (by kernel_rfl)
theorem at120 : ∀ y, some row120 = some y → RowAt (.I (.O (.O (.I (.I (.I Pos.H)))))) y := row_at rfl Tryz.func120 (by kernel_rfl) (by kernel_rfl)
theorem at121 : ∀ y, some row121 = some y → RowAt (.O (.I (.O (.I (.I (.I Pos.H)))))) y := row_at rfl Tryz.func121 (by kernel_rfl) (by kernel_rfl)
theorem at122 : ∀ y, some row122 = some y → RowAt (.I (.I (.O (.I (.I (.I Pos.H)))))) y := row_at rfl Tryz.func122 (by kernel_rfl) (by kernel_rfl)
theorem at123 : ∀ y, some row123 = some y → RowAt (.O (.O (.I (.I (.I (.I Pos.H)))))) y := row_at rfl Tryz.func123 (by kernel_rfl) (by kernel_rfl)
theorem at124 : ∀ y, some row124 = some y → RowAt (.I (.O (.I (.I (.I (.I Pos.H)))))) y := row_at rfl Tryz.func124 (by kernel_rfl) (by kernel_rfl)
theorem at125 : ∀ y, some row125 = some y → RowAt (.O (.I (.I (.I (.I (.I Pos.H)))))) y := row_at rfl Tryz.func125 (by kernel_rfl) (by kernel_rfl)
theorem at126 : ∀ y, some row126 = some y → RowAt (.I (.I (.I (.I (.I (.I Pos.H)))))) y := row_at rfl Tryz.func126 (by kernel_rfl) (by kernel_rfl)
theorem at127 : ∀ y, some row127 = some y → RowAt (.O (.O (.O (.O (.O (.O (.O Pos.H))))))) y := row_at rfl Tryz.func127 (by kernel_rfl) (by kernel_rfl)
theorem at128 : ∀ y, some row128 = some y → RowAt (.I (.O (.O (.O (.O (.O (.O Pos.H))))))) y := row_at rfl Tryz.func128 (by kernel_rfl) (by kernel_rfl)
theorem at129 : ∀ y, some row129 = some y → RowAt (.O (.I (.O (.O (.O (.O (.O Pos.H))))))) y := row_at rfl Tryz.func129 (by kernel_rfl) (by kernel_rfl)
theorem at130 : ∀ y, some row130 = some y → RowAt (.I (.I (.O (.O (.O (.O (.O Pos.H))))))) y := row_at rfl Tryz.func130 (by kernel_rfl) (by kernel_rfl)
theorem at131 : ∀ y, some row131 = some y → RowAt (.O (.O (.I (.O (.O (.O (.O Pos.H))))))) y := row_at rfl Tryz.func131 (by kernel_rfl) (by kernel_rfl)
theorem at132 : ∀ y, some row132 = some y → RowAt (.I (.O (.I (.O (.O (.O (.O Pos.H))))))) y := row_at rfl Tryz.func132 (by kernel_rfl) (by kernel_rfl)
theorem at133 : ∀ y, some row133 = some y → RowAt (.O (.I (.I (.O (.O (.O (.O Pos.H))))))) y := row_at rfl Tryz.func133 (by kernel_rfl) (by kernel_rfl)
theorem at134 : ∀ y, some row134 = some y → RowAt (.I (.I (.I (.O (.O (.O (.O Pos.H))))))) y := row_at rfl Tryz.func134 (by kernel_rfl) (by kernel_rfl)
theorem at135 : ∀ y, some row135 = some y → RowAt (.O (.O (.O (.I (.O (.O (.O Pos.H))))))) y := row_at rfl Tryz.func135 (by kernel_rfl) (by kernel_rfl)
theorem at136 : ∀ y, some row136 = some y → RowAt (.I (.O (.O (.I (.O (.O (.O Pos.H))))))) y := row_at rfl Tryz.func136 (by kernel_rfl) (by kernel_rfl)
theorem at137 : ∀ y, some row137 = some y → RowAt (.O (.I (.O (.I (.O (.O (.O Pos.H))))))) y := row_at rfl Tryz.func137 (by kernel_rfl) (by kernel_rfl)
theorem at138 : ∀ y, some row138 = some y → RowAt (.I (.I (.O (.I (.O (.O (.O Pos.H))))))) y := row_at rfl Tryz.func138 (by kernel_rfl) (by kernel_rfl)
theorem at139 : ∀ y, some row139 = some y → RowAt (.O (.O (.I (.I (.O (.O (.O Pos.H))))))) y := row_at rfl Tryz.func139 (by kernel_rfl) (by kernel_rfl)
theorem at140 : ∀ y, some row140 = some y → RowAt (.I (.O (.I (.I (.O (.O (.O Pos.H))))))) y := row_at rfl Tryz.func140 (by kernel_rfl) (by kernel_rfl)
theorem at141 : ∀ y, some row141 = some y → RowAt (.O (.I (.I (.I (.O (.O (.O Pos.H))))))) y := row_at rfl Tryz.func141 (by kernel_rfl) (by kernel_rfl)
theorem at142 : ∀ y, some row142 = some y → RowAt (.I (.I (.I (.I (.O (.O (.O Pos.H))))))) y := row_at rfl Tryz.func142 (by kernel_rfl) (by kernel_rfl)
theorem at143 : ∀ y, some row143 = some y → RowAt (.O (.O (.O (.O (.I (.O (.O Pos.H))))))) y := row_at rfl Tryz.func143 (by kernel_rfl) (by kernel_rfl)
theorem at144 : ∀ y, some row144 = some y → RowAt (.I (.O (.O (.O (.I (.O (.O Pos.H))))))) y := row_at rfl Tryz.func144 (by kernel_rfl) (by kernel_rfl)
theorem at145 : ∀ y, some row145 = some y → RowAt (.O (.I (.O (.O (.I (.O (.O Pos.H))))))) y := row_at rfl Tryz.func145 (by kernel_rfl) (by kernel_rfl)
theorem at146 : ∀ y, some row146 = some y → RowAt (.I (.I (.O (.O (.I (.O (.O Pos.H))))))) y := row_at rfl Tryz.func146 (by kernel_rfl) (by kernel_rfl)
theorem at147 : ∀ y, some row147 = some y → RowAt (.O (.O (.I (.O (.I (.O (.O Pos.H))))))) y := row_at rfl Tryz.func147 (by kernel_rfl) (by kernel_rfl)
theorem at148 : ∀ y, some row148 = some y → RowAt (.I (.O (.I (.O (.I (.O (.O Pos.H))))))) y := row_at rfl Tryz.func148 (by kernel_rfl) (by kernel_rfl)
theorem at149 : ∀ y, some row149 = some y → RowAt (.O (.I (.I (.O (.I (.O (.O Pos.H))))))) y := row_at rfl Tryz.func149 (by kernel_rfl) (by kernel_rfl)
theorem at150 : ∀ y, some row150 = some y → RowAt (.I (.I (.I (.O (.I (.O (.O Pos.H))))))) y := row_at rfl Tryz.func150 (by kernel_rfl) (by kernel_rfl)
theorem at151 : ∀ y, some row151 = some y → RowAt (.O (.O (.O (.I (.I (.O (.O Pos.H))))))) y := row_at rfl Tryz.func151 (by kernel_rfl) (by kernel_rfl)
theorem at152 : ∀ y, some row152 = some y → RowAt (.I (.O (.O (.I (.I (.O (.O Pos.H))))))) y := row_at rfl Tryz.func152 (by kernel_rfl) (by kernel_rfl)
theorem at153 : ∀ y, some row153 = some y → RowAt (.O (.I (.O (.I (.I (.O (.O Pos.H))))))) y := row_at rfl Tryz.func153 (by kernel_rfl) (by kernel_rfl)
theorem at154 : ∀ y, some row154 = some y → RowAt (.I (.I (.O (.I (.I (.O (.O Pos.H))))))) y := row_at rfl Tryz.func154 (by kernel_rfl) (by kernel_rfl)
theorem at155 : ∀ y, some row155 = some y → RowAt (.O (.O (.I (.I (.I (.O (.O Pos.H))))))) y := row_at rfl Tryz.func155 (by kernel_rfl) (by kernel_rfl)
theorem at156 : ∀ y, some row156 = some y → RowAt (.I (.O (.I (.I (.I (.O (.O Pos.H))))))) y := row_at rfl Tryz.func156 (by kernel_rfl) (by kernel_rfl)
theorem at157 : ∀ y, some row157 = some y → RowAt (.O (.I (.I (.I (.I (.O (.O Pos.H))))))) y := row_at rfl Tryz.func157 (by kernel_rfl) (by kernel_rfl)
theorem at158 : ∀ y, some row158 = some y → RowAt (.I (.I (.I (.I (.I (.O (.O Pos.H))))))) y := row_at rfl Tryz.func158 (by kernel_rfl) (by kernel_rfl)
theorem at159 : ∀ y, some row159 = some y → RowAt (.O (.O (.O (.O (.O (.I (.O Pos.H))))))) y := row_at rfl Tryz.func159 (by kernel_rfl) (by kernel_rfl)
theorem at160 : ∀ y, some row160 = some y → RowAt (.I (.O (.O (.O (.O (.I (.O Pos.H))))))) y := row_at rfl Tryz.func160 (by kernel_rfl) (by kernel_rfl)
theorem at161 : ∀ y, some row161 = some y → RowAt (.O (.I (.O (.O (.O (.I (.O Pos.H))))))) y := row_at rfl Tryz.func161 (by kernel_rfl) (by kernel_rfl)
theorem at162 : ∀ y, some row162 = some y → RowAt (.I (.I (.O (.O (.O (.I (.O Pos.H))))))) y := row_at rfl Tryz.func162 (by kernel_rfl) (by kernel_rfl)
theorem at163 : ∀ y, some row163 = some y → RowAt (.O (.O (.I (.O (.O (.I (.O Pos.H))))))) y := row_at rfl Tryz.func163 (by kernel_rfl) (by kernel_rfl)
theorem at164 : ∀ y, some row164 = some y → RowAt (.I (.O (.I (.O (.O (.I (.O Pos.H))))))) y := row_at rfl Tryz.func164 (by kernel_rfl) (by kernel_rfl)
theorem at165 : ∀ y, some row165 = some y → RowAt (.O (.I (.I (.O (.O (.I (.O Pos.H))))))) y := row_at rfl Tryz.func165 (by kernel_rfl) (by kernel_rfl)
theorem at166 : ∀ y, some row166 = some y → RowAt (.I (.I (.I (.O (.O (.I (.O Pos.H))))))) y := row_at rfl Tryz.func166 (by kernel_rfl) (by kernel_rfl)
theorem at167 : ∀ y, some row167 = some y → RowAt (.O (.O (.O (.I (.O (.I (.O Pos.H))))))) y := row_at rfl Tryz.func167 (by kernel_rfl) (by kernel_rfl)
theorem at168 : ∀ y, some row168 = some y → RowAt (.I (.O (.O (.I (.O (.I (.O Pos.H))))))) y := row_at rfl Tryz.func168 (by kernel_rfl) (by kernel_rfl)
theorem at169 : ∀ y, some row169 = some y → RowAt (.O (.I (.O (.I (.O (.I (.O Pos.H))))))) y := row_at rfl Tryz.func169 (by kernel_rfl) (by kernel_rfl)
theorem at170 : ∀ y, some row170 = some y → RowAt (.I (.I (.O (.I (.O (.I (.O Pos.H))))))) y := row_at rfl Tryz.func170 (by kernel_rfl) (by kernel_rfl)
theorem at171 : ∀ y, some row171 = some y → RowAt (.O (.O (.I (.I (.O (.I (.O Pos.H))))))) y := row_at rfl Tryz.func171 (by kernel_rfl) (by kernel_rfl)
theorem at172 : ∀ y, some row172 = some y → RowAt (.I (.O (.I (.I (.O (.I (.O Pos.H))))))) y := row_at rfl Tryz.func172 (by kernel_rfl) (by kernel_rfl)
theorem at173 : ∀ y, some row173 = some y → RowAt (.O (.I (.I (.I (.O (.I (.O Pos.H))))))) y := row_at rfl Tryz.func173 (by kernel_rfl) (by kernel_rfl)
theorem at174 : ∀ y, some row174 = some y → RowAt (.I (.I (.I (.I (.O (.I (.O Pos.H))))))) y := row_at rfl Tryz.func174 (by kernel_rfl) (by kernel_rfl)
theorem at175 : ∀ y, some row175 = some y → RowAt (.O (.O (.O (.O (.I (.I (.O Pos.H))))))) y := row_at rfl Tryz.func175 (by kernel_rfl) (by kernel_rfl)
theorem at176 : ∀ y, some row176 = some y → RowAt (.I (.O (.O (.O (.I (.I (.O Pos.H))))))) y := row_at rfl Tryz.func176 (by kernel_rfl) (by kernel_rfl)
theorem at177 : ∀ y, some row177 = some y → RowAt (.O (.I (.O (.O (.I (.I (.O Pos.H))))))) y := row_at rfl Tryz.func177 (by kernel_rfl) (by kernel_rfl)
theorem at178 : ∀ y, some row178 = some y → RowAt (.I (.I (.O (.O (.I (.I (.O Pos.H))))))) y := row_at rfl Tryz.func178 (by kernel_rfl) (by kernel_rfl)
theorem at179 : ∀ y, some row179 = some y → RowAt (.O (.O (.I (.O (.I (.I (.O Pos.H))))))) y := row_at rfl Tryz.func179 (by kernel_rfl) (by kernel_rfl)
theorem at180 : ∀ y, some row180 = some y → RowAt (.I (.O (.I (.O (.I (.I (.O Pos.H))))))) y := row_at rfl Tryz.func180 (by kernel_rfl) (by kernel_rfl)
theorem at181 : ∀ y, some row181 = some y → RowAt (.O (.I (.I (.O (.I (.I (.O Pos.H))))))) y := row_at rfl Tryz.func181 (by kernel_rfl) (by kernel_rfl)
theorem at182 : ∀ y, some row182 = some y → RowAt (.I (.I (.I (.O (.I (.I (.O Pos.H))))))) y := row_at rfl Tryz.func182 (by kernel_rfl) (by kernel_rfl)
theorem at183 : ∀ y, some row183 = some y → RowAt (.O (.O (.O (.I (.I (.I (.O Pos.H))))))) y := row_at rfl Tryz.func183 (by kernel_rfl) (by kernel_rfl)
theorem at184 : ∀ y, some row184 = some y → RowAt (.I (.O (.O (.I (.I (.I (.O Pos.H))))))) y := row_at rfl Tryz.func184 (by kernel_rfl) (by kernel_rfl)
theorem at185 : ∀ y, some row185 = some y → RowAt (.O (.I (.O (.I (.I (.I (.O Pos.H))))))) y := row_at rfl Tryz.func185 (by kernel_rfl) (by kernel_rfl)
theorem at186 : ∀ y, some row186 = some y → RowAt (.I (.I (.O (.I (.I (.I (.O Pos.H))))))) y := row_at rfl Tryz.func186 (by kernel_rfl) (by kernel_rfl)
theorem at187 : ∀ y, some row187 = some y → RowAt (.O (.O (.I (.I (.I (.I (.O Pos.H))))))) y := row_at rfl Tryz.func187 (by kernel_rfl) (by kernel_rfl)
theorem at188 : ∀ y, some row188 = some y → RowAt (.I (.O (.I (.I (.I (.I (.O Pos.H))))))) y := row_at rfl Tryz.func188 (by kernel_rfl) (by kernel_rfl)
theorem at189 : ∀ y, some row189 = some y → RowAt (.O (.I (.I (.I (.I (.I (.O Pos.H))))))) y := row_at rfl Tryz.func189 (by kernel_rfl) (by kernel_rfl)
theorem at190 : ∀ y, some row190 = some y → RowAt (.I (.I (.I (.I (.I (.I (.O Pos.H))))))) y := row_at rfl Tryz.func190 (by kernel_rfl) (by kernel_rfl)
theorem at191 : ∀ y, some row191 = some y → RowAt (.O (.O (.O (.O (.O (.O (.I Pos.H))))))) y := row_at rfl Tryz.func191 (by kernel_rfl) (by kernel_rfl)
theorem at192 : ∀ y, some row192 = some y → RowAt (.I (.O (.O (.O (.O (.O (.I Pos.H))))))) y := row_at rfl Tryz.func192 (by kernel_rfl) (by kernel_rfl)
theorem at193 : ∀ y, some row193 = some y → RowAt (.O (.I (.O (.O (.O (.O (.I Pos.H))))))) y := row_at rfl Tryz.func193 (by kernel_rfl) (by kernel_rfl)
theorem at194 : ∀ y, some row194 = some y → RowAt (.I (.I (.O (.O (.O (.O (.I Pos.H))))))) y := row_at rfl Tryz.func194 (by kernel_rfl) (by kernel_rfl)
theorem at195 : ∀ y, some row195 = some y → RowAt (.O (.O (.I (.O (.O (.O (.I Pos.H))))))) y := row_at rfl Tryz.func195 (by kernel_rfl) (by kernel_rfl)
theorem at196 : ∀ y, some row196 = some y → RowAt (.I (.O (.I (.O (.O (.O (.I Pos.H))))))) y := row_at rfl Tryz.func196 (by kernel_rfl) (by kernel_rfl)
theorem at197 : ∀ y, some row197 = some y → RowAt (.O (.I (.I (.O (.O (.O (.I Pos.H))))))) y := row_at rfl Tryz.func197 (by kernel_rfl) (by kernel_rfl)
theorem at198 : ∀ y, some row198 = some y → RowAt (.I (.I (.I (.O (.O (.O (.I Pos.H))))))) y := row_at rfl Tryz.func198 (by kernel_rfl) (by kernel_rfl)
theorem at199 : ∀ y, some row199 = some y → RowAt (.O (.O (.O (.I (.O (.O (.I Pos.H))))))) y := row_at rfl Tryz.func199 (by kernel_rfl) (by kernel_rfl)
theorem at200 : ∀ y, some row200 = some y → RowAt (.I (.O (.O (.I (.O (.O (.I Pos.H))))))) y := row_at rfl Tryz.func200 (by kernel_rfl) (by kernel_rfl)
theorem at201 : ∀ y, some row201 = some y → RowAt (.O (.I (.O (.I (.O (.O (.I Pos.H))))))) y := row_at rfl Tryz.func201 (by kernel_rfl) (by kernel_rfl)
theorem at202 : ∀ y, some row202 = some y → RowAt (.I (.I (.O (.I (.O (.O (.I Pos.H))))))) y := row_at rfl Tryz.func202 (by kernel_rfl) (by kernel_rfl)
theorem at203 : ∀ y, some row203 = some y → RowAt (.O (.O (.I (.I (.O (.O (.I Pos.H))))))) y := row_at rfl Tryz.func203 (by kernel_rfl) (by kernel_rfl)
theorem at204 : ∀ y, some row204 = some y → RowAt (.I (.O (.I (.I (.O (.O (.I Pos.H))))))) y := row_at rfl Tryz.func204 (by kernel_rfl) (by kernel_rfl)
theorem at205 : ∀ y, some row205 = some y → RowAt (.O (.I (.I (.I (.O (.O (.I Pos.H))))))) y := row_at rfl Tryz.func205 (by kernel_rfl) (by kernel_rfl)
theorem at206 : ∀ y, some row206 = some y → RowAt (.I (.I (.I (.I (.O (.O (.I Pos.H))))))) y := row_at rfl Tryz.func206 (by kernel_rfl) (by kernel_rfl)
theorem at207 : ∀ y, some row207 = some y → RowAt (.O (.O (.O (.O (.I (.O (.I Pos.H))))))) y := row_at rfl Tryz.func207 (by kernel_rfl) (by kernel_rfl)
theorem at208 : ∀ y, some row208 = some y → RowAt (.I (.O (.O (.O (.I (.O (.I Pos.H))))))) y := row_at rfl Tryz.func208 (by kernel_rfl) (by kernel_rfl)
theorem at209 : ∀ y, some row209 = some y → RowAt (.O (.I (.O (.O (.I (.O (.I Pos.H))))))) y := row_at rfl Tryz.func209 (by kernel_rfl) (by kernel_rfl)
theorem at210 : ∀ y, some row210 = some y → RowAt (.I (.I (.O (.O (.I (.O (.I Pos.H))))))) y := row_at rfl Tryz.func210 (by kernel_rfl) (by kernel_rfl)
theorem at211 : ∀ y, some row211 = some y → RowAt (.O (.O (.I (.O (.I (.O (.I Pos.H))))))) y := row_at rfl Tryz.func211 (by kernel_rfl) (by kernel_rfl)
theorem at212 : ∀ y, some row212 = some y → RowAt (.I (.O (.I (.O (.I (.O (.I Pos.H))))))) y := row_at rfl Tryz.func212 (by kernel_rfl) (by kernel_rfl)
theorem at213 : ∀ y, some row213 = some y → RowAt (.O (.I (.I (.O (.I (.O (.I Pos.H))))))) y := row_at rfl Tryz.func213 (by kernel_rfl) (by kernel_rfl)
theorem at214 : ∀ y, some row214 = some y → RowAt (.I (.I (.I (.O (.I (.O (.I Pos.H))))))) y := row_at rfl Tryz.func214 (by kernel_rfl) (by kernel_rfl)
theorem at215 : ∀ y, some row215 = some y → RowAt (.O (.O (.O (.I (.I (.O (.I Pos.H))))))) y := row_at rfl Tryz.func215 (by kernel_rfl) (by kernel_rfl)
theorem at216 : ∀ y, some row216 = some y → RowAt (.I (.O (.O (.I (.I (.O (.I Pos.H))))))) y := row_at rfl Tryz.func216 (by kernel_rfl) (by kernel_rfl)
theorem at217 : ∀ y, some row217 = some y → RowAt (.O (.I (.O (.I (.I (.O (.I Pos.H))))))) y := row_at rfl Tryz.func217 (by kernel_rfl) (by kernel_rfl)
theorem at218 : ∀ y, some row218 = some y → RowAt (.I (.I (.O (.I (.I (.O (.I Pos.H))))))) y := row_at rfl Tryz.func218 (by kernel_rfl) (by kernel_rfl)
theorem at219 : ∀ y, some row219 = some y → RowAt (.O (.O (.I (.I (.I (.O (.I Pos.H))))))) y := row_at rfl Tryz.func219 (by kernel_rfl) (by kernel_rfl)
theorem at220 : ∀ y, some row220 = some y → RowAt (.I (.O (.I (.I (.I (.O (.I Pos.H))))))) y := row_at rfl Tryz.func220 (by kernel_rfl) (by kernel_rfl)
theorem at221 : ∀ y, some row221 = some y → RowAt (.O (.I (.I (.I (.I (.O (.I Pos.H))))))) y := row_at rfl Tryz.func221 (by kernel_rfl) (by kernel_rfl)
theorem at222 : ∀ y, some row222 = some y → RowAt (.I (.I (.I (.I (.I (.O (.I Pos.H))))))) y := row_at rfl Tryz.func222 (by kernel_rfl) (by kernel_rfl)
theorem at223 : ∀ y, some row223 = some y → RowAt (.O (.O (.O (.O (.O (.I (.I Pos.H))))))) y := row_at rfl Tryz.func223 (by kernel_rfl) (by kernel_rfl)
theorem at224 : ∀ y, some row224 = some y → RowAt (.I (.O (.O (.O (.O (.I (.I Pos.H))))))) y := row_at rfl Tryz.func224 (by kernel_rfl) (by kernel_rfl)
theorem at225 : ∀ y, some row225 = some y → RowAt (.O (.I (.O (.O (.O (.I (.I Pos.H))))))) y := row_at rfl Tryz.func225 (by kernel_rfl) (by kernel_rfl)
theorem at226 : ∀ y, some row226 = some y → RowAt (.I (.I (.O (.O (.O (.I (.I Pos.H))))))) y := row_at rfl Tryz.func226 (by kernel_rfl) (by kernel_rfl)
theorem at227 : ∀ y, some row227 = some y → RowAt (.O (.O (.I (.O (.O (.I (.I Pos.H))))))) y := row_at rfl Tryz.func227 (by kernel_rfl) (by kernel_rfl)
theorem at228 : ∀ y, some row228 = some y → RowAt (.I (.O (.I (.O (.O (.I (.I Pos.H))))))) y := row_at rfl Tryz.func228 (by kernel_rfl) (by kernel_rfl)
theorem at229 : ∀ y, some row229 = some y → RowAt (.O (.I (.I (.O (.O (.I (.I Pos.H))))))) y := row_at rfl Tryz.func229 (by kernel_rfl) (by kernel_rfl)
theorem at230 : ∀ y, some row230 = some y → RowAt (.I (.I (.I (.O (.O (.I (.I Pos.H))))))) y := row_at rfl Tryz.func230 (by kernel_rfl) (by kernel_rfl)
theorem at231 : ∀ y, some row231 = some y → RowAt (.O (.O (.O (.I (.O (.I (.I Pos.H))))))) y := row_at rfl Tryz.func231 (by kernel_rfl) (by kernel_rfl)
theorem at232 : ∀ y, some row232 = some y → RowAt (.I (.O (.O (.I (.O (.I (.I Pos.H))))))) y := row_at rfl Tryz.func232 (by kernel_rfl) (by kernel_rfl)
theorem at233 : ∀ y, some row233 = some y → RowAt (.O (.I (.O (.I (.O (.I (.I Pos.H))))))) y := row_at rfl Tryz.func233 (by kernel_rfl) (by kernel_rfl)
theorem at234 : ∀ y, some row234 = some y → RowAt (.I (.I (.O (.I (.O (.I (.I Pos.H))))))) y := row_at rfl Tryz.func234 (by kernel_rfl) (by kernel_rfl)
theorem at235 : ∀ y, some row235 = some y → RowAt (.O (.O (.I (.I (.O (.I (.I Pos.H))))))) y := row_at rfl Tryz.func235 (by kernel_rfl) (by kernel_rfl)
theorem at236 : ∀ y, some row236 = some y → RowAt (.I (.O (.I (.I (.O (.I (.I Pos.H))))))) y := row_at rfl Tryz.func236 (by kernel_rfl) (by kernel_rfl)
theorem at237 : ∀ y, some row237 = some y → RowAt (.O (.I (.I (.I (.O (.I (.I Pos.H))))))) y := row_at rfl Tryz.func237 (by kernel_rfl) (by kernel_rfl)
theorem at238 : ∀ y, some row238 = some y → RowAt (.I (.I (.I (.I (.O (.I (.I Pos.H))))))) y := row_at rfl Tryz.func238 (by kernel_rfl) (by kernel_rfl)
theorem at239 : ∀ y, some row239 = some y → RowAt (.O (.O (.O (.O (.I (.I (.I Pos.H))))))) y := row_at rfl Tryz.func239 (by kernel_rfl) (by kernel_rfl)
theorem at240 : ∀ y, some row240 = some y → RowAt (.I (.O (.O (.O (.I (.I (.I Pos.H))))))) y := row_at rfl Tryz.func240 (by kernel_rfl) (by kernel_rfl)
theorem at241 : ∀ y, some row241 = some y → RowAt (.O (.I (.O (.O (.I (.I (.I Pos.H))))))) y := row_at rfl Tryz.func241 (by kernel_rfl) (by kernel_rfl)
theorem at242 : ∀ y, some row242 = some y → RowAt (.I (.I (.O (.O (.I (.I (.I Pos.H))))))) y := row_at rfl Tryz.func242 (by kernel_rfl) (by kernel_rfl)
theorem at243 : ∀ y, some row243 = some y → RowAt (.O (.O (.I (.O (.I (.I (.I Pos.H))))))) y := row_at rfl Tryz.func243 (by kernel_rfl) (by kernel_rfl)
theorem at244 : ∀ y, some row244 = some y → RowAt (.I (.O (.I (.O (.I (.I (.I Pos.H))))))) y := row_at rfl Tryz.func244 (by kernel_rfl) (by kernel_rfl)
theorem at245 : ∀ y, some row245 = some y → RowAt (.O (.I (.I (.O (.I (.I (.I Pos.H))))))) y := row_at rfl Tryz.func245 (by kernel_rfl) (by kernel_rfl)
theorem at246 : ∀ y, some row246 = some y → RowAt (.I (.I (.I (.O (.I (.I (.I Pos.H))))))) y := row_at rfl Tryz.func246 (by kernel_rfl) (by kernel_rfl)
theorem at247 : ∀ y, some row247 = some y → RowAt (.O (.O (.O (.I (.I (.I (.I Pos.H))))))) y := row_at rfl Tryz.func247 (by kernel_rfl) (by kernel_rfl)
theorem at248 : ∀ y, some row248 = some y → RowAt (.I (.O (.O (.I (.I (.I (.I Pos.H))))))) y := row_at rfl Tryz.func248 (by kernel_rfl) (by kernel_rfl)
theorem at249 : ∀ y, some row249 = some y → RowAt (.O (.I (.O (.I (.I (.I (.I Pos.H))))))) y := row_at rfl Tryz.func249 (by kernel_rfl) (by kernel_rfl)
theorem at250 : ∀ y, some row250 = some y → RowAt (.I (.I (.O (.I (.I (.I (.I Pos.H))))))) y := row_at rfl Tryz.func250 (by kernel_rfl) (by kernel_rfl)
theorem at251 : ∀ y, some row251 = some y → RowAt (.O (.O (.I (.I (.I (.I (.I Pos.H))))))) y := row_at rfl Tryz.func251 (by kernel_rfl) (by kernel_rfl)
theorem at252 : ∀ y, some row252 = some y → RowAt (.I (.O (.I (.I (.I (.I (.I Pos.H))))))) y := row_at rfl Tryz.func252 (by kernel_rfl) (by kernel_rfl)
theorem at253 : ∀ y, some row253 = some y → RowAt (.O (.I (.I (.I (.I (.I (.I Pos.H))))))) y := row_at rfl Tryz.func253 (by kernel_rfl) (by kernel_rfl)
theorem at254 : ∀ y, some row254 = some y → RowAt (.I (.I (.I (.I (.I (.I (.I Pos.H))))))) y := row_at rfl Tryz.func254 (by kernel_rfl) (by kernel_rfl)
theorem at255 : ∀ y, some row255 = some y → RowAt (.O (.O (.O (.O (.O (.O (.O (.O Pos.H)))))))) y := row_at rfl Tryz.func255 (by kernel_rfl) (by kernel_rfl)
theorem at256 : ∀ y, some row256 = some y → RowAt (.I (.O (.O (.O (.O (.O (.O (.O Pos.H)))))))) y := row_at rfl Tryz.func256 (by kernel_rfl) (by kernel_rfl)
theorem at257 : ∀ y, some row257 = some y → RowAt (.O (.I (.O (.O (.O (.O (.O (.O Pos.H)))))))) y := row_at rfl Tryz.func257 (by kernel_rfl) (by kernel_rfl)
theorem at258 : ∀ y, some row258 = some y → RowAt (.I (.I (.O (.O (.O (.O (.O (.O Pos.H)))))))) y := row_at rfl Tryz.func258 (by kernel_rfl) (by kernel_rfl)
theorem at259 : ∀ y, some row259 = some y → RowAt (.O (.O (.I (.O (.O (.O (.O (.O Pos.H)))))))) y := row_at rfl Tryz.func259 (by kernel_rfl) (by kernel_rfl)
theorem at260 : ∀ y, some row260 = some y → RowAt (.I (.O (.I (.O (.O (.O (.O (.O Pos.H)))))))) y := row_at rfl Tryz.func260 (by kernel_rfl) (by kernel_rfl)
theorem at261 : ∀ y, some row261 = some y → RowAt (.O (.I (.I (.O (.O (.O (.O (.O Pos.H)))))))) y := row_at rfl Tryz.func261 (by kernel_rfl) (by kernel_rfl)
theorem at262 : ∀ y, some row262 = some y → RowAt (.I (.I (.I (.O (.O (.O (.O (.O Pos.H)))))))) y := row_at rfl Tryz.func262 (by kernel_rfl) (by kernel_rfl)
theorem at263 : ∀ y, some row263 = some y → RowAt (.O (.O (.O (.I (.O (.O (.O (.O Pos.H)))))))) y := row_at rfl Tryz.func263 (by kernel_rfl) (by kernel_rfl)
theorem at264 : ∀ y, some row264 = some y → RowAt (.I (.O (.O (.I (.O (.O (.O (.O Pos.H)))))))) y := row_at rfl Tryz.func264 (by kernel_rfl) (by kernel_rfl)
theorem at265 : ∀ y, some row265 = some y → RowAt (.O (.I (.O (.I (.O (.O (.O (.O Pos.H)))))))) y := row_at rfl Tryz.func265 (by kernel_rfl) (by kernel_rfl)
theorem at266 : ∀ y, some row266 = some y → RowAt (.I (.I (.O (.I (.O (.O (.O (.O Pos.H)))))))) y := row_at rfl Tryz.func266 (by kernel_rfl) (by kernel_rfl)
theorem at267 : ∀ y, some row267 = some y → RowAt (.O (.O (.I (.I (.O (.O (.O (.O Pos.H)))))))) y := row_at rfl Tryz.func267 (by kernel_rfl) (by kernel_rfl)
theorem at268 : ∀ y, some row268 = some y → RowAt (.I (.O (.I (.I (.O (.O (.O (.O Pos.H)))))))) y := row_at rfl Tryz.func268 (by kernel_rfl) (by kernel_rfl)
theorem at269 : ∀ y, some row269 = some y → RowAt (.O (.I (.I (.I (.O (.O (.O (.O Pos.H)))))))) y := row_at rfl Tryz.func269 (by kernel_rfl) (by kernel_rfl)
theorem at270 : ∀ y, some row270 = some y → RowAt (.I (.I (.I (.I (.O (.O (.O (.O Pos.H)))))))) y := row_at rfl Tryz.func270 (by kernel_rfl) (by kernel_rfl)
theorem at271 : ∀ y, some row271 = some y → RowAt (.O (.O (.O (.O (.I (.O (.O (.O Pos.H)))))))) y := row_at rfl Tryz.func271 (by kernel_rfl) (by kernel_rfl)
theorem at272 : ∀ y, some row272 = some y → RowAt (.I (.O (.O (.O (.I (.O (.O (.O Pos.H)))))))) y := row_at rfl Tryz.func272 (by kernel_rfl) (by kernel_rfl)
theorem at273 : ∀ y, some row273 = some y → RowAt (.O (.I (.O (.O (.I (.O (.O (.O Pos.H)))))))) y := row_at rfl Tryz.func273 (by kernel_rfl) (by kernel_rfl)
theorem at274 : ∀ y, some row274 = some y → RowAt (.I (.I (.O (.O (.I (.O (.O (.O Pos.H)))))))) y := row_at rfl Tryz.func274 (by kernel_rfl) (by kernel_rfl)
theorem at275 : ∀ y, some row275 = some y → RowAt (.O (.O (.I (.O (.I (.O (.O (.O Pos.H)))))))) y := row_at rfl Tryz.func275 (by kernel_rfl) (by kernel_rfl)
theorem at276 : ∀ y, some row276 = some y → RowAt (.I (.O (.I (.O (.I (.O (.O (.O Pos.H)))))))) y := row_at rfl Tryz.func276 (by kernel_rfl) (by kernel_rfl)
theorem at277 : ∀ y, some row277 = some y → RowAt (.O (.I (.I (.O (.I (.O (.O (.O Pos.H)))))))) y := row_at rfl Tryz.func277 (by kernel_rfl) (by kernel_rfl)
theorem at278 : ∀ y, some row278 = some y → RowAt (.I (.I (.I (.O (.I (.O (.O (.O Pos.H)))))))) y := row_at rfl Tryz.func278 (by kernel_rfl) (by kernel_rfl)
theorem at279 : ∀ y, some row279 = some y → RowAt (.O (.O (.O (.I (.I (.O (.O (.O Pos.H)))))))) y := row_at rfl Tryz.func279 (by kernel_rfl) (by kernel_rfl)
theorem at280 : ∀ y, some row280 = some y → RowAt (.I (.O (.O (.I (.I (.O (.O (.O Pos.H)))))))) y := row_at rfl Tryz.func280 (by kernel_rfl) (by kernel_rfl)
theorem at281 : ∀ y, some row281 = some y → RowAt (.O (.I (.O (.I (.I (.O (.O (.O Pos.H)))))))) y := row_at rfl Tryz.func281 (by kernel_rfl) (by kernel_rfl)
theorem at282 : ∀ y, some row282 = some y → RowAt (.I (.I (.O (.I (.I (.O (.O (.O Pos.H)))))))) y := row_at rfl Tryz.func282 (by kernel_rfl) (by kernel_rfl)
theorem at283 : ∀ y, some row283 = some y → RowAt (.O (.O (.I (.I (.I (.O (.O (.O Pos.H)))))))) y := row_at rfl Tryz.func283 (by kernel_rfl) (by kernel_rfl)
theorem at284 : ∀ y, some row284 = some y → RowAt (.I (.O (.I (.I (.I (.O (.O (.O Pos.H)))))))) y := row_at rfl Tryz.func284 (by kernel_rfl) (by kernel_rfl)
theorem at285 : ∀ y, some row285 = some y → RowAt (.O (.I (.I (.I (.I (.O (.O (.O Pos.H)))))))) y := row_at rfl Tryz.func285 (by kernel_rfl) (by kernel_rfl)
theorem at286 : ∀ y, some row286 = some y → RowAt (.I (.I (.I (.I (.I (.O (.O (.O Pos.H)))))))) y := row_at rfl Tryz.func286 (by kernel_rfl) (by kernel_rfl)
theorem at287 : ∀ y, some row287 = some y → RowAt (.O (.O (.O (.O (.O (.I (.O (.O Pos.H)))))))) y := row_at rfl Tryz.func287 (by kernel_rfl) (by kernel_rfl)
theorem at288 : ∀ y, some row288 = some y → RowAt (.I (.O (.O (.O (.O (.I (.O (.O Pos.H)))))))) y := row_at rfl Tryz.func288 (by kernel_rfl) (by kernel_rfl)
theorem at289 : ∀ y, some row289 = some y → RowAt (.O (.I (.O (.O (.O (.I (.O (.O Pos.H)))))))) y := row_at rfl Tryz.func289 (by kernel_rfl) (by kernel_rfl)
theorem at290 : ∀ y, some row290 = some y → RowAt (.I (.I (.O (.O (.O (.I (.O (.O Pos.H)))))))) y := row_at rfl Tryz.func290 (by kernel_rfl) (by kernel_rfl)
theorem at291 : ∀ y, some row291 = some y → RowAt (.O (.O (.I (.O (.O (.I (.O (.O Pos.H)))))))) y := row_at rfl Tryz.func291 (by kernel_rfl) (by kernel_rfl)
theorem at292 : ∀ y, some row292 = some y → RowAt (.I (.O (.I (.O (.O (.I (.O (.O Pos.H)))))))) y := row_at rfl Tryz.func292 (by kernel_rfl) (by kernel_rfl)
theorem at293 : ∀ y, some row293 = some y → RowAt (.O (.I (.I (.O (.O (.I (.O (.O Pos.H)))))))) y := row_at rfl Tryz.func293 (by kernel_rfl) (by kernel_rfl)
theorem at294 : ∀ y, some row294 = some y → RowAt (.I (.I (.I (.O (.O (.I (.O (.O Pos.H)))))))) y := row_at rfl Tryz.func294 (by kernel_rfl) (by kernel_rfl)
theorem at295 : ∀ y, some row295 = some y → RowAt (.O (.O (.O (.I (.O (.I (.O (.O Pos.H)))))))) y := row_at rfl Tryz.func295 (by kernel_rfl) (by kernel_rfl)
theorem at296 : ∀ y, some row296 = some y → RowAt (.I (.O (.O (.I (.O (.I (.O (.O Pos.H)))))))) y := row_at rfl Tryz.func296 (by kernel_rfl) (by kernel_rfl)
theorem at297 : ∀ y, some row297 = some y → RowAt (.O (.I (.O (.I (.O (.I (.O (.O Pos.H)))))))) y := row_at rfl Tryz.func297 (by kernel_rfl) (by kernel_rfl)
theorem at298 : ∀ y, some row298 = some y → RowAt (.I (.I (.O (.I (.O (.I (.O (.O Pos.H)))))))) y := row_at rfl Tryz.func298 (by kernel_rfl) (by kernel_rfl)
theorem at299 : ∀ y, some row299 = some y → RowAt (.O (.O (.I (.I (.O (.I (.O (.O Pos.H)))))))) y := row_at rfl Tryz.func299 (by kernel_rfl) (by kernel_rfl)
theorem at300 : ∀ y, some row300 = some y → RowAt (.I (.O (.I (.I (.O (.I (.O (.O Pos.H)))))))) y := row_at rfl Tryz.func300 (by kernel_rfl) (by kernel_rfl)
theorem at301 : ∀ y, some row301 = some y → RowAt (.O (.I (.I (.I (.O (.I (.O (.O Pos.H)))))))) y := row_at rfl Tryz.func301 (by kernel_rfl) (by kernel_rfl)
theorem at302 : ∀ y, some row302 = some y → RowAt (.I (.I (.I (.I (.O (.I (.O (.O Pos.H)))))))) y := row_at rfl Tryz.func302 (by kernel_rfl) (by kernel_rfl)
theorem at303 : ∀ y, some row303 = some y → RowAt (.O (.O (.O (.O (.I (.I (.O (.O Pos.H)))))))) y := row_at rfl Tryz.func303 (by kernel_rfl) (by kernel_rfl)
theorem at304 : ∀ y, some row304 = some y → RowAt (.I (.O (.O (.O (.I (.I (.O (.O Pos.H)))))))) y := row_at rfl Tryz.func304 (by kernel_rfl) (by kernel_rfl)
theorem at305 : ∀ y, some row305 = some y → RowAt (.O (.I (.O (.O (.I (.I (.O (.O Pos.H)))))))) y := row_at rfl Tryz.func305 (by kernel_rfl) (by kernel_rfl)
theorem at306 : ∀ y, some row306 = some y → RowAt (.I (.I (.O (.O (.I (.I (.O (.O Pos.H)))))))) y := row_at rfl Tryz.func306 (by kernel_rfl) (by kernel_rfl)
theorem at307 : ∀ y, some row307 = some y → RowAt (.O (.O (.I (.O (.I (.I (.O (.O Pos.H)))))))) y := row_at rfl Tryz.func307 (by kernel_rfl) (by kernel_rfl)
theorem at308 : ∀ y, some row308 = some y → RowAt (.I (.O (.I (.O (.I (.I (.O (.O Pos.H)))))))) y := row_at rfl Tryz.func308 (by kernel_rfl) (by kernel_rfl)
theorem at309 : ∀ y, some row309 = some y → RowAt (.O (.I (.I (.O (.I (.I (.O (.O Pos.H)))))))) y := row_at rfl Tryz.func309 (by kernel_rfl) (by kernel_rfl)
theorem at310 : ∀ y, some row310 = some y → RowAt (.I (.I (.I (.O (.I (.I (.O (.O Pos.H)))))))) y := row_at rfl Tryz.func310 (by kernel_rfl) (by kernel_rfl)
theorem at311 : ∀ y, some row311 = some y → RowAt (.O (.O (.O (.I (.I (.I (.O (.O Pos.H)))))))) y := row_at rfl Tryz.func311 (by kernel_rfl) (by kernel_rfl)
theorem at312 : ∀ y, some row312 = some y → RowAt (.I (.O (.O (.I (.I (.I (.O (.O Pos.H)))))))) y := row_at rfl Tryz.func312 (by kernel_rfl) (by kernel_rfl)
theorem at313 : ∀ y, some row313 = some y → RowAt (.O (.I (.O (.I (.I (.I (.O (.O Pos.H)))))))) y := row_at rfl Tryz.func313 (by kernel_rfl) (by kernel_rfl)
theorem at314 : ∀ y, some row314 = some y → RowAt (.I (.I (.O (.I (.I (.I (.O (.O Pos.H)))))))) y := row_at rfl Tryz.func314 (by kernel_rfl) (by kernel_rfl)
theorem at315 : ∀ y, some row315 = some y → RowAt (.O (.O (.I (.I (.I (.I (.O (.O Pos.H)))))))) y := row_at rfl Tryz.func315 (by kernel_rfl) (by kernel_rfl)
theorem at316 : ∀ y, some row316 = some y → RowAt (.I (.O (.I (.I (.I (.I (.O (.O Pos.H)))))))) y := row_at rfl Tryz.func316 (by kernel_rfl) (by kernel_rfl)
theorem at317 : ∀ y, some row317 = some y → RowAt (.O (.I (.I (.I (.I (.I (.O (.O Pos.H)))))))) y := row_at rfl Tryz.func317 (by kernel_rfl) (by kernel_rfl)
theorem at318 : ∀ y, some row318 = some y → RowAt (.I (.I (.I (.I (.I (.I (.O (.O Pos.H)))))))) y := row_at rfl Tryz.func318 (by kernel_rfl) (by kernel_rfl)
theorem at319 : ∀ y, some row319 = some y → RowAt (.O (.O (.O (.O (.O (.O (.I (.O Pos.H)))))))) y := row_at rfl Tryz.func319 (by kernel_rfl) (by kernel_rfl)
theorem at320 : ∀ y, some row320 = some y → RowAt (.I (.O (.O (.O (.O (.O (.I (.O Pos.H)))))))) y := row_at rfl Tryz.func320 (by kernel_rfl) (by kernel_rfl)
theorem at321 : ∀ y, some row321 = some y → RowAt (.O (.I (.O (.O (.O (.O (.I (.O Pos.H)))))))) y := row_at rfl Tryz.func321 (by kernel_rfl) (by kernel_rfl)
theorem at322 : ∀ y, some row322 = some y → RowAt (.I (.I (.O (.O (.O (.O (.I (.O Pos.H)))))))) y := row_at rfl Tryz.func322 (by kernel_rfl) (by kernel_rfl)
theorem at323 : ∀ y, some row323 = some y → RowAt (.O (.O (.I (.O (.O (.O (.I (.O Pos.H)))))))) y := row_at rfl Tryz.func323 (by kernel_rfl) (by kernel_rfl)
theorem at324 : ∀ y, some row324 = some y → RowAt (.I (.O (.I (.O (.O (.O (.I (.O Pos.H)))))))) y := row_at rfl Tryz.func324 (by kernel_rfl) (by kernel_rfl)
theorem at325 : ∀ y, some row325 = some y → RowAt (.O (.I (.I (.O (.O (.O (.I (.O Pos.H)))))))) y := row_at rfl Tryz.func325 (by kernel_rfl) (by kernel_rfl)
theorem at326 : ∀ y, some row326 = some y → RowAt (.I (.I (.I (.O (.O (.O (.I (.O Pos.H)))))))) y := row_at rfl Tryz.func326 (by kernel_rfl) (by kernel_rfl)
theorem at327 : ∀ y, some row327 = some y → RowAt (.O (.O (.O (.I (.O (.O (.I (.O Pos.H)))))))) y := row_at rfl Tryz.func327 (by kernel_rfl) (by kernel_rfl)
theorem at328 : ∀ y, some row328 = some y → RowAt (.I (.O (.O (.I (.O (.O (.I (.O Pos.H)))))))) y := row_at rfl Tryz.func328 (by kernel_rfl) (by kernel_rfl)
theorem at329 : ∀ y, some row329 = some y → RowAt (.O (.I (.O (.I (.O (.O (.I (.O Pos.H)))))))) y := row_at rfl Tryz.func329 (by kernel_rfl) (by kernel_rfl)
theorem at330 : ∀ y, some row330 = some y → RowAt (.I (.I (.O (.I (.O (.O (.I (.O Pos.H)))))))) y := row_at rfl Tryz.func330 (by kernel_rfl) (by kernel_rfl)
theorem at331 : ∀ y, some row331 = some y → RowAt (.O (.O (.I (.I (.O (.O (.I (.O Pos.H)))))))) y := row_at rfl Tryz.func331 (by kernel_rfl) (by kernel_rfl)
theorem at332 : ∀ y, some row332 = some y → RowAt (.I (.O (.I (.I (.O (.O (.I (.O Pos.H)))))))) y := row_at rfl Tryz.func332 (by kernel_rfl) (by kernel_rfl)
theorem at333 : ∀ y, some row333 = some y → RowAt (.O (.I (.I (.I (.O (.O (.I (.O Pos.H)))))))) y := row_at rfl Tryz.func333 (by kernel_rfl) (by kernel_rfl)
theorem at334 : ∀ y, some row334 = some y → RowAt (.I (.I (.I (.I (.O (.O (.I (.O Pos.H)))))))) y := row_at rfl Tryz.func334 (by kernel_rfl) (by kernel_rfl)
theorem at335 : ∀ y, some row335 = some y → RowAt (.O (.O (.O (.O (.I (.O (.I (.O Pos.H)))))))) y := row_at rfl Tryz.func335 (by kernel_rfl) (by kernel_rfl)
theorem at336 : ∀ y, some row336 = some y → RowAt (.I (.O (.O (.O (.I (.O (.I (.O Pos.H)))))))) y := row_at rfl Tryz.func336 (by kernel_rfl) (by kernel_rfl)
theorem at337 : ∀ y, some row337 = some y → RowAt (.O (.I (.O (.O (.I (.O (.I (.O Pos.H)))))))) y := row_at rfl Tryz.func337 (by kernel_rfl) (by kernel_rfl)
theorem at338 : ∀ y, some row338 = some y → RowAt (.I (.I (.O (.O (.I (.O (.I (.O Pos.H)))))))) y := row_at rfl Tryz.func338 (by kernel_rfl) (by kernel_rfl)
theorem at339 : ∀ y, some row339 = some y → RowAt (.O (.O (.I (.O (.I (.O (.I (.O Pos.H)))))))) y := row_at rfl Tryz.func339 (by kernel_rfl) (by kernel_rfl)
theorem at340 : ∀ y, some row340 = some y → RowAt (.I (.O (.I (.O (.I (.O (.I (.O Pos.H)))))))) y := row_at rfl Tryz.func340 (by kernel_rfl) (by kernel_rfl)
theorem at341 : ∀ y, some row341 = some y → RowAt (.O (.I (.I (.O (.I (.O (.I (.O Pos.H)))))))) y := row_at rfl Tryz.func341 (by kernel_rfl) (by kernel_rfl)
theorem at342 : ∀ y, some row342 = some y → RowAt (.I (.I (.I (.O (.I (.O (.I (.O Pos.H)))))))) y := row_at rfl Tryz.func342 (by kernel_rfl) (by kernel_rfl)
theorem at343 : ∀ y, some row343 = some y → RowAt (.O (.O (.O (.I (.I (.O (.I (.O Pos.H)))))))) y := row_at rfl Tryz.func343 (by kernel_rfl) (by kernel_rfl)
theorem at344 : ∀ y, some row344 = some y → RowAt (.I (.O (.O (.I (.I (.O (.I (.O Pos.H)))))))) y := row_at rfl Tryz.func344 (by kernel_rfl) (by kernel_rfl)
theorem at345 : ∀ y, some row345 = some y → RowAt (.O (.I (.O (.I (.I (.O (.I (.O Pos.H)))))))) y := row_at rfl Tryz.func345 (by kernel_rfl) (by kernel_rfl)
theorem at346 : ∀ y, some row346 = some y → RowAt (.I (.I (.O (.I (.I (.O (.I (.O Pos.H)))))))) y := row_at rfl Tryz.func346 (by kernel_rfl) (by kernel_rfl)
theorem at347 : ∀ y, some row347 = some y → RowAt (.O (.O (.I (.I (.I (.O (.I (.O Pos.H)))))))) y := row_at rfl Tryz.func347 (by kernel_rfl) (by kernel_rfl)
theorem at348 : ∀ y, some row348 = some y → RowAt (.I (.O (.I (.I (.I (.O (.I (.O Pos.H)))))))) y := row_at rfl Tryz.func348 (by kernel_rfl) (by kernel_rfl)
theorem at349 : ∀ y, some row349 = some y → RowAt (.O (.I (.I (.I (.I (.O (.I (.O Pos.H)))))))) y := row_at rfl Tryz.func349 (by kernel_rfl) (by kernel_rfl)
theorem at350 : ∀ y, some row350 = some y → RowAt (.I (.I (.I (.I (.I (.O (.I (.O Pos.H)))))))) y := row_at rfl Tryz.func350 (by kernel_rfl) (by kernel_rfl)
theorem at351 : ∀ y, some row351 = some y → RowAt (.O (.O (.O (.O (.O (.I (.I (.O Pos.H)))))))) y := row_at rfl Tryz.func351 (by kernel_rfl) (by kernel_rfl)
theorem at352 : ∀ y, some row352 = some y → RowAt (.I (.O (.O (.O (.O (.I (.I (.O Pos.H)))))))) y := row_at rfl Tryz.func352 (by kernel_rfl) (by kernel_rfl)
theorem at353 : ∀ y, some row353 = some y → RowAt (.O (.I (.O (.O (.O (.I (.I (.O Pos.H)))))))) y := row_at rfl Tryz.func353 (by kernel_rfl) (by kernel_rfl)
theorem at354 : ∀ y, some row354 = some y → RowAt (.I (.I (.O (.O (.O (.I (.I (.O Pos.H)))))))) y := row_at rfl Tryz.func354 (by kernel_rfl) (by kernel_rfl)
theorem at355 : ∀ y, some row355 = some y → RowAt (.O (.O (.I (.O (.O (.I (.I (.O Pos.H)))))))) y := row_at rfl Tryz.func355 (by kernel_rfl) (by kernel_rfl)
theorem at356 : ∀ y, some row356 = some y → RowAt (.I (.O (.I (.O (.O (.I (.I (.O Pos.H)))))))) y := row_at rfl Tryz.func356 (by kernel_rfl) (by kernel_rfl)
theorem at357 : ∀ y, some row357 = some y → RowAt (.O (.I (.I (.O (.O (.I (.I (.O Pos.H)))))))) y := row_at rfl Tryz.func357 (by kernel_rfl) (by kernel_rfl)
theorem at358 : ∀ y, some row358 = some y → RowAt (.I (.I (.I (.O (.O (.I (.I (.O Pos.H)))))))) y := row_at rfl Tryz.func358 (by kernel_rfl) (by kernel_rfl)
theorem at359 : ∀ y, some row359 = some y → RowAt (.O (.O (.O (.I (.O (.I (.I (.O Pos.H)))))))) y := row_at rfl Tryz.func359 (by kernel_rfl) (by kernel_rfl)
theorem at360 : ∀ y, some row360 = some y → RowAt (.I (.O (.O (.I (.O (.I (.I (.O Pos.H)))))))) y := row_at rfl Tryz.func360 (by kernel_rfl) (by kernel_rfl)
theorem at361 : ∀ y, some row361 = some y → RowAt (.O (.I (.O (.I (.O (.I (.I (.O Pos.H)))))))) y := row_at rfl Tryz.func361 (by kernel_rfl) (by kernel_rfl)
theorem at362 : ∀ y, some row362 = some y → RowAt (.I (.I (.O (.I (.O (.I (.I (.O Pos.H)))))))) y := row_at rfl Tryz.func362 (by kernel_rfl) (by kernel_rfl)
theorem at363 : ∀ y, some row363 = some y → RowAt (.O (.O (.I (.I (.O (.I (.I (.O Pos.H)))))))) y := row_at rfl Tryz.func363 (by kernel_rfl) (by kernel_rfl)
theorem at364 : ∀ y, some row364 = some y → RowAt (.I (.O (.I (.I (.O (.I (.I (.O Pos.H)))))))) y := row_at rfl Tryz.func364 (by kernel_rfl) (by kernel_rfl)
theorem at365 : ∀ y, some row365 = some y → RowAt (.O (.I (.I (.I (.O (.I (.I (.O Pos.H)))))))) y := row_at rfl Tryz.func365 (by kernel_rfl) (by kernel_rfl)
theorem at366 : ∀ y, some row366 = some y → RowAt (.I (.I (.I (.I (.O (.I (.I (.O Pos.H)))))))) y := row_at rfl Tryz.func366 (by kernel_rfl) (by kernel_rfl)
theorem at367 : ∀ y, some row367 = some y → RowAt (.O (.O (.O (.O (.I (.I (.I (.O Pos.H)))))))) y := row_at rfl Tryz.func367 (by kernel_rfl) (by kernel_rfl)
theorem at368 : ∀ y, some row368 = some y → RowAt (.I (.O (.O (.O (.I (.I (.I (.O Pos.H)))))))) y := row_at rfl Tryz.func368 (by kernel_rfl) (by kernel_rfl)
theorem at369 : ∀ y, some row369 = some y → RowAt (.O (.I (.O (.O (.I (.I (.I (.O Pos.H)))))))) y := row_at rfl Tryz.func369 (by kernel_rfl) (by kernel_rfl)
theorem at370 : ∀ y, some row370 = some y → RowAt (.I (.I (.O (.O (.I (.I (.I (.O Pos.H)))))))) y := row_at rfl Tryz.func370 (by kernel_rfl) (by kernel_rfl)
theorem at371 : ∀ y, some row371 = some y → RowAt (.O (.O (.I (.O (.I (.I (.I (.O Pos.H)))))))) y := row_at rfl Tryz.func371 (by kernel_rfl) (by kernel_rfl)
theorem at372 : ∀ y, some row372 = some y → RowAt (.I (.O (.I (.O (.I (.I (.I (.O Pos.H)))))))) y := row_at rfl Tryz.func372 (by kernel_rfl) (by kernel_rfl)
theorem at373 : ∀ y, some row373 = some y → RowAt (.O (.I (.I (.O (.I (.I (.I (.O Pos.H)))))))) y := row_at rfl Tryz.func373 (by kernel_rfl) (by kernel_rfl)
theorem at374 : ∀ y, some row374 = some y → RowAt (.I (.I (.I (.O (.I (.I (.I (.O Pos.H)))))))) y := row_at rfl Tryz.func374 (by kernel_rfl) (by kernel_rfl)
theorem at375 : ∀ y, some row375 = some y → RowAt (.O (.O (.O (.I (.I (.I (.I (.O Pos.H)))))))) y := row_at rfl Tryz.func375 (by kernel_rfl) (by kernel_rfl)
theorem at376 : ∀ y, some row376 = some y → RowAt (.I (.O (.O (.I (.I (.I (.I (.O Pos.H)))))))) y := row_at rfl Tryz.func376 (by kernel_rfl) (by kernel_rfl)
theorem at377 : ∀ y, some row377 = some y → RowAt (.O (.I (.O (.I (.I (.I (.I (.O Pos.H)))))))) y := row_at rfl Tryz.func377 (by kernel_rfl) (by kernel_rfl)
theorem at378 : ∀ y, some row378 = some y → RowAt (.I (.I (.O (.I (.I (.I (.I (.O Pos.H)))))))) y := row_at rfl Tryz.func378 (by kernel_rfl) (by kernel_rfl)
theorem at379 : ∀ y, some row379 = some y → RowAt (.O (.O (.I (.I (.I (.I (.I (.O Pos.H)))))))) y := row_at rfl Tryz.func379 (by kernel_rfl) (by kernel_rfl)
theorem at380 : ∀ y, some row380 = some y → RowAt (.I (.O (.I (.I (.I (.I (.I (.O Pos.H)))))))) y := row_at rfl Tryz.func380 (by kernel_rfl) (by kernel_rfl)
theorem at381 : ∀ y, some row381 = some y → RowAt (.O (.I (.I (.I (.I (.I (.I (.O Pos.H)))))))) y := row_at rfl Tryz.func381 (by kernel_rfl) (by kernel_rfl)
theorem at382 : ∀ y, some row382 = some y → RowAt (.I (.I (.I (.I (.I (.I (.I (.O Pos.H)))))))) y := row_at rfl Tryz.func382 (by kernel_rfl) (by kernel_rfl)
theorem at383 : ∀ y, some row383 = some y → RowAt (.O (.O (.O (.O (.O (.O (.O (.I Pos.H)))))))) y := row_at rfl Tryz.func383 (by kernel_rfl) (by kernel_rfl)
theorem at384 : ∀ y, some row384 = some y → RowAt (.I (.O (.O (.O (.O (.O (.O (.I Pos.H)))))))) y := row_at rfl Tryz.func384 (by kernel_rfl) (by kernel_rfl)
theorem at385 : ∀ y, some row385 = some y → RowAt (.O (.I (.O (.O (.O (.O (.O (.I Pos.H)))))))) y := row_at rfl Tryz.func385 (by kernel_rfl) (by kernel_rfl)
theorem at386 : ∀ y, some row386 = some y → RowAt (.I (.I (.O (.O (.O (.O (.O (.I Pos.H)))))))) y := row_at rfl Tryz.func386 (by kernel_rfl) (by kernel_rfl)
theorem at387 : ∀ y, some row387 = some y → RowAt (.O (.O (.I (.O (.O (.O (.O (.I Pos.H)))))))) y := row_at rfl Tryz.func387 (by kernel_rfl) (by kernel_rfl)
theorem at388 : ∀ y, some row388 = some y → RowAt (.I (.O (.I (.O (.O (.O (.O (.I Pos.H)))))))) y := row_at rfl Tryz.func388 (by kernel_rfl) (by kernel_rfl)
theorem at389 : ∀ y, some row389 = some y → RowAt (.O (.I (.I (.O (.O (.O (.O (.I Pos.H)))))))) y := row_at rfl Tryz.func389 (by kernel_rfl) (by kernel_rfl)
theorem at390 : ∀ y, some row390 = some y → RowAt (.I (.I (.I (.O (.O (.O (.O (.I Pos.H)))))))) y := row_at rfl Tryz.func390 (by kernel_rfl) (by kernel_rfl)
theorem at391 : ∀ y, some row391 = some y → RowAt (.O (.O (.O (.I (.O (.O (.O (.I Pos.H)))))))) y := row_at rfl Tryz.func391 (by kernel_rfl) (by kernel_rfl)
theorem at392 : ∀ y, some row392 = some y → RowAt (.I (.O (.O (.I (.O (.O (.O (.I Pos.H)))))))) y := row_at rfl Tryz.func392 (by kernel_rfl) (by kernel_rfl)
theorem at393 : ∀ y, some row393 = some y → RowAt (.O (.I (.O (.I (.O (.O (.O (.I Pos.H)))))))) y := row_at rfl Tryz.func393 (by kernel_rfl) (by kernel_rfl)
theorem at394 : ∀ y, some row394 = some y → RowAt (.I (.I (.O (.I (.O (.O (.O (.I Pos.H)))))))) y := row_at rfl Tryz.func394 (by kernel_rfl) (by kernel_rfl)
theorem at395 : ∀ y, some row395 = some y → RowAt (.O (.O (.I (.I (.O (.O (.O (.I Pos.H)))))))) y := row_at rfl Tryz.func395 (by kernel_rfl) (by kernel_rfl)
theorem at396 : ∀ y, some row396 = some y → RowAt (.I (.O (.I (.I (.O (.O (.O (.I Pos.H)))))))) y := row_at rfl Tryz.func396 (by kernel_rfl) (by kernel_rfl)
theorem at397 : ∀ y, some row397 = some y → RowAt (.O (.I (.I (.I (.O (.O (.O (.I Pos.H)))))))) y := row_at rfl Tryz.func397 (by kernel_rfl) (by kernel_rfl)
theorem at398 : ∀ y, some row398 = some y → RowAt (.I (.I (.I (.I (.O (.O (.O (.I Pos.H)))))))) y := row_at rfl Tryz.func398 (by kernel_rfl) (by kernel_rfl)
theorem at399 : ∀ y, some row399 = some y → RowAt (.O (.O (.O (.O (.I (.O (.O (.I Pos.H)))))))) y := row_at rfl Tryz.func399 (by kernel_rfl) (by kernel_rfl)
theorem at400 : ∀ y, some row400 = some y → RowAt (.I (.O (.O (.O (.I (.O (.O (.I Pos.H)))))))) y := row_at rfl Tryz.func400 (by kernel_rfl) (by kernel_rfl)
theorem at401 : ∀ y, some row401 = some y → RowAt (.O (.I (.O (.O (.I (.O (.O (.I Pos.H)))))))) y := row_at rfl Tryz.func401 (by kernel_rfl) (by kernel_rfl)
theorem at402 : ∀ y, some row402 = some y → RowAt (.I (.I (.O (.O (.I (.O (.O (.I Pos.H)))))))) y := row_at rfl Tryz.func402 (by kernel_rfl) (by kernel_rfl)
theorem at403 : ∀ y, some row403 = some y → RowAt (.O (.O (.I (.O (.I (.O (.O (.I Pos.H)))))))) y := row_at rfl Tryz.func403 (by kernel_rfl) (by kernel_rfl)
theorem at404 : ∀ y, some row404 = some y → RowAt (.I (.O (.I (.O (.I (.O (.O (.I Pos.H)))))))) y := row_at rfl Tryz.func404 (by kernel_rfl) (by kernel_rfl)
theorem at405 : ∀ y, some row405 = some y → RowAt (.O (.I (.I (.O (.I (.O (.O (.I Pos.H)))))))) y := row_at rfl Tryz.func405 (by kernel_rfl) (by kernel_rfl)
theorem at406 : ∀ y, some row406 = some y → RowAt (.I (.I (.I (.O (.I (.O (.O (.I Pos.H)))))))) y := row_at rfl Tryz.func406 (by kernel_rfl) (by kernel_rfl)
theorem at407 : ∀ y, some row407 = some y → RowAt (.O (.O (.O (.I (.I (.O (.O (.I Pos.H)))))))) y := row_at rfl Tryz.func407 (by kernel_rfl) (by kernel_rfl)
theorem at408 : ∀ y, some row408 = some y → RowAt (.I (.O (.O (.I (.I (.O (.O (.I Pos.H)))))))) y := row_at rfl Tryz.func408 (by kernel_rfl) (by kernel_rfl)
theorem at409 : ∀ y, some row409 = some y → RowAt (.O (.I (.O (.I (.I (.O (.O (.I Pos.H)))))))) y := row_at rfl Tryz.func409 (by kernel_rfl) (by kernel_rfl)
theorem at410 : ∀ y, some row410 = some y → RowAt (.I (.I (.O (.I (.I (.O (.O (.I Pos.H)))))))) y := row_at rfl Tryz.func410 (by kernel_rfl) (by kernel_rfl)
theorem at411 : ∀ y, some row411 = some y → RowAt (.O (.O (.I (.I (.I (.O (.O (.I Pos.H)))))))) y := row_at rfl Tryz.func411 (by kernel_rfl) (by kernel_rfl)
theorem at412 : ∀ y, some row412 = some y → RowAt (.I (.O (.I (.I (.I (.O (.O (.I Pos.H)))))))) y := row_at rfl Tryz.func412 (by kernel_rfl) (by kernel_rfl)
theorem at413 : ∀ y, some row413 = some y → RowAt (.O (.I (.I (.I (.I (.O (.O (.I Pos.H)))))))) y := row_at rfl Tryz.func413 (by kernel_rfl) (by kernel_rfl)
theorem at414 : ∀ y, some row414 = some y → RowAt (.I (.I (.I (.I (.I (.O (.O (.I Pos.H)))))))) y := row_at rfl Tryz.func414 (by kernel_rfl) (by kernel_rfl)
theorem at415 : ∀ y, some row415 = some y → RowAt (.O (.O (.O (.O (.O (.I (.O (.I Pos.H)))))))) y := row_at rfl Tryz.func415 (by kernel_rfl) (by kernel_rfl)
theorem at416 : ∀ y, some row416 = some y → RowAt (.I (.O (.O (.O (.O (.I (.O (.I Pos.H)))))))) y := row_at rfl Tryz.func416 (by kernel_rfl) (by kernel_rfl)
theorem at417 : ∀ y, some row417 = some y → RowAt (.O (.I (.O (.O (.O (.I (.O (.I Pos.H)))))))) y := row_at rfl Tryz.func417 (by kernel_rfl) (by kernel_rfl)
theorem at418 : ∀ y, some row418 = some y → RowAt (.I (.I (.O (.O (.O (.I (.O (.I Pos.H)))))))) y := row_at rfl Tryz.func418 (by kernel_rfl) (by kernel_rfl)
theorem at419 : ∀ y, some row419 = some y → RowAt (.O (.O (.I (.O (.O (.I (.O (.I Pos.H)))))))) y := row_at rfl Tryz.func419 (by kernel_rfl) (by kernel_rfl)
theorem at420 : ∀ y, some row420 = some y → RowAt (.I (.O (.I (.O (.O (.I (.O (.I Pos.H)))))))) y := row_at rfl Tryz.func420 (by kernel_rfl) (by kernel_rfl)
theorem at421 : ∀ y, some row421 = some y → RowAt (.O (.I (.I (.O (.O (.I (.O (.I Pos.H)))))))) y := row_at rfl Tryz.func421 (by kernel_rfl) (by kernel_rfl)
theorem at422 : ∀ y, some row422 = some y → RowAt (.I (.I (.I (.O (.O (.I (.O (.I Pos.H)))))))) y := row_at rfl Tryz.func422 (by kernel_rfl) (by kernel_rfl)
theorem at423 : ∀ y, some row423 = some y → RowAt (.O (.O (.O (.I (.O (.I (.O (.I Pos.H)))))))) y := row_at rfl Tryz.func423 (by kernel_rfl) (by kernel_rfl)
theorem at424 : ∀ y, some row424 = some y → RowAt (.I (.O (.O (.I (.O (.I (.O (.I Pos.H)))))))) y := row_at rfl Tryz.func424 (by kernel_rfl) (by kernel_rfl)
theorem at425 : ∀ y, some row425 = some y → RowAt (.O (.I (.O (.I (.O (.I (.O (.I Pos.H)))))))) y := row_at rfl Tryz.func425 (by kernel_rfl) (by kernel_rfl)
theorem at426 : ∀ y, some row426 = some y → RowAt (.I (.I (.O (.I (.O (.I (.O (.I Pos.H)))))))) y := row_at rfl Tryz.func426 (by kernel_rfl) (by kernel_rfl)
theorem at427 : ∀ y, some row427 = some y → RowAt (.O (.O (.I (.I (.O (.I (.O (.I Pos.H)))))))) y := row_at rfl Tryz.func427 (by kernel_rfl) (by kernel_rfl)
theorem at428 : ∀ y, some row428 = some y → RowAt (.I (.O (.I (.I (.O (.I (.O (.I Pos.H)))))))) y := row_at rfl Tryz.func428 (by kernel_rfl) (by kernel_rfl)
theorem at429 : ∀ y, some row429 = some y → RowAt (.O (.I (.I (.I (.O (.I (.O (.I Pos.H)))))))) y := row_at rfl Tryz.func429 (by kernel_rfl) (by kernel_rfl)
theorem at430 : ∀ y, some row430 = some y → RowAt (.I (.I (.I (.I (.O (.I (.O (.I Pos.H)))))))) y := row_at rfl Tryz.func430 (by kernel_rfl) (by kernel_rfl)
theorem at431 : ∀ y, some row431 = some y → RowAt (.O (.O (.O (.O (.I (.I (.O (.I Pos.H)))))))) y := row_at rfl Tryz.func431 (by kernel_rfl) (by kernel_rfl)
theorem at432 : ∀ y, some row432 = some y → RowAt (.I (.O (.O (.O (.I (.I (.O (.I Pos.H)))))))) y := row_at rfl Tryz.func432 (by kernel_rfl) (by kernel_rfl)
theorem at433 : ∀ y, some row433 = some y → RowAt (.O (.I (.O (.O (.I (.I (.O (.I Pos.H)))))))) y := row_at rfl Tryz.func433 (by kernel_rfl) (by kernel_rfl)
theorem at434 : ∀ y, some row434 = some y → RowAt (.I (.I (.O (.O (.I (.I (.O (.I Pos.H)))))))) y := row_at rfl Tryz.func434 (by kernel_rfl) (by kernel_rfl)
theorem at435 : ∀ y, some row435 = some y → RowAt (.O (.O (.I (.O (.I (.I (.O (.I Pos.H)))))))) y := row_at rfl Tryz.func435 (by kernel_rfl) (by kernel_rfl)
theorem at436 : ∀ y, some row436 = some y → RowAt (.I (.O (.I (.O (.I (.I (.O (.I Pos.H)))))))) y := row_at rfl Tryz.func436 (by kernel_rfl) (by kernel_rfl)
theorem at437 : ∀ y, some row437 = some y → RowAt (.O (.I (.I (.O (.I (.I (.O (.I Pos.H)))))))) y := row_at rfl Tryz.func437 (by kernel_rfl) (by kernel_rfl)
theorem at438 : ∀ y, some row438 = some y → RowAt (.I (.I (.I (.O (.I (.I (.O (.I Pos.H)))))))) y := row_at rfl Tryz.func438 (by kernel_rfl) (by kernel_rfl)
theorem at439 : ∀ y, some row439 = some y → RowAt (.O (.O (.O (.I (.I (.I (.O (.I Pos.H)))))))) y := row_at rfl Tryz.func439 (by kernel_rfl) (by kernel_rfl)
theorem at440 : ∀ y, some row440 = some y → RowAt (.I (.O (.O (.I (.I (.I (.O (.I Pos.H)))))))) y := row_at rfl Tryz.func440 (by kernel_rfl) (by kernel_rfl)
theorem at441 : ∀ y, some row441 = some y → RowAt (.O (.I (.O (.I (.I (.I (.O (.I Pos.H)))))))) y := row_at rfl Tryz.func441 (by kernel_rfl) (by kernel_rfl)
theorem at442 : ∀ y, some row442 = some y → RowAt (.I (.I (.O (.I (.I (.I (.O (.I Pos.H)))))))) y := row_at rfl Tryz.func442 (by kernel_rfl) (by kernel_rfl)
theorem at443 : ∀ y, some row443 = some y → RowAt (.O (.O (.I (.I (.I (.I (.O (.I Pos.H)))))))) y := row_at rfl Tryz.func443 (by kernel_rfl) (by kernel_rfl)
theorem at444 : ∀ y, some row444 = some y → RowAt (.I (.O (.I (.I (.I (.I (.O (.I Pos.H)))))))) y := row_at rfl Tryz.func444 (by kernel_rfl) (by kernel_rfl)
theorem at445 : ∀ y, some row445 = some y → RowAt (.O (.I (.I (.I (.I (.I (.O (.I Pos.H)))))))) y := row_at rfl Tryz.func445 (by kernel_rfl) (by kernel_rfl)
theorem at446 : ∀ y, some row446 = some y → RowAt (.I (.I (.I (.I (.I (.I (.O (.I Pos.H)))))))) y := row_at rfl Tryz.func446 (by kernel_rfl) (by kernel_rfl)
theorem at447 : ∀ y, some row447 = some y → RowAt (.O (.O (.O (.O (.O (.O (.I (.I Pos.H)))))))) y := row_at rfl Tryz.func447 (by kernel_rfl) (by kernel_rfl)
theorem at448 : ∀ y, some row448 = some y → RowAt (.I (.O (.O (.O (.O (.O (.I (.I Pos.H)))))))) y := row_at rfl Tryz.func448 (by kernel_rfl) (by kernel_rfl)
theorem at449 : ∀ y, some row449 = some y → RowAt (.O (.I (.O (.O (.O (.O (.I (.I Pos.H)))))))) y := row_at rfl Tryz.func449 (by kernel_rfl) (by kernel_rfl)
theorem at450 : ∀ y, some row450 = some y → RowAt (.I (.I (.O (.O (.O (.O (.I (.I Pos.H)))))))) y := row_at rfl Tryz.func450 (by kernel_rfl) (by kernel_rfl)
theorem at451 : ∀ y, some row451 = some y → RowAt (.O (.O (.I (.O (.O (.O (.I (.I Pos.H)))))))) y := row_at rfl Tryz.func451 (by kernel_rfl) (by kernel_rfl)
theorem at452 : ∀ y, some row452 = some y → RowAt (.I (.O (.I (.O (.O (.O (.I (.I Pos.H)))))))) y := row_at rfl Tryz.func452 (by kernel_rfl) (by kernel_rfl)
theorem at453 : ∀ y, some row453 = some y → RowAt (.O (.I (.I (.O (.O (.O (.I (.I Pos.H)))))))) y := row_at rfl Tryz.func453 (by kernel_rfl) (by kernel_rfl)
theorem at454 : ∀ y, some row454 = some y → RowAt (.I (.I (.I (.O (.O (.O (.I (.I Pos.H)))))))) y := row_at rfl Tryz.func454 (by kernel_rfl) (by kernel_rfl)
theorem at455 : ∀ y, some row455 = some y → RowAt (.O (.O (.O (.I (.O (.O (.I (.I Pos.H)))))))) y := row_at rfl Tryz.func455 (by kernel_rfl) (by kernel_rfl)
theorem at456 : ∀ y, some row456 = some y → RowAt (.I (.O (.O (.I (.O (.O (.I (.I Pos.H)))))))) y := row_at rfl Tryz.func456 (by kernel_rfl) (by kernel_rfl)
theorem at457 : ∀ y, some row457 = some y → RowAt (.O (.I (.O (.I (.O (.O (.I (.I Pos.H)))))))) y := row_at rfl Tryz.func457 (by kernel_rfl) (by kernel_rfl)
theorem at458 : ∀ y, some row458 = some y → RowAt (.I (.I (.O (.I (.O (.O (.I (.I Pos.H)))))))) y := row_at rfl Tryz.func458 (by kernel_rfl) (by kernel_rfl)
theorem at459 : ∀ y, some row459 = some y → RowAt (.O (.O (.I (.I (.O (.O (.I (.I Pos.H)))))))) y := row_at rfl Tryz.func459 (by kernel_rfl) (by kernel_rfl)
theorem at460 : ∀ y, some row460 = some y → RowAt (.I (.O (.I (.I (.O (.O (.I (.I Pos.H)))))))) y := row_at rfl Tryz.func460 (by kernel_rfl) (by kernel_rfl)
theorem at461 : ∀ y, some row461 = some y → RowAt (.O (.I (.I (.I (.O (.O (.I (.I Pos.H)))))))) y := row_at rfl Tryz.func461 (by kernel_rfl) (by kernel_rfl)
theorem at462 : ∀ y, some row462 = some y → RowAt (.I (.I (.I (.I (.O (.O (.I (.I Pos.H)))))))) y := row_at rfl Tryz.func462 (by kernel_rfl) (by kernel_rfl)
theorem at463 : ∀ y, some row463 = some y → RowAt (.O (.O (.O (.O (.I (.O (.I (.I Pos.H)))))))) y := row_at rfl Tryz.func463 (by kernel_rfl) (by kernel_rfl)
theorem at464 : ∀ y, some row464 = some y → RowAt (.I (.O (.O (.O (.I (.O (.I (.I Pos.H)))))))) y := row_at rfl Tryz.func464 (by kernel_rfl) (by kernel_rfl)
theorem at465 : ∀ y, some row465 = some y → RowAt (.O (.I (.O (.O (.I (.O (.I (.I Pos.H)))))))) y := row_at rfl Tryz.func465 (by kernel_rfl) (by kernel_rfl)
theorem at466 : ∀ y, some row466 = some y → RowAt (.I (.I (.O (.O (.I (.O (.I (.I Pos.H)))))))) y := row_at rfl Tryz.func466 (by kernel_rfl) (by kernel_rfl)
theorem at467 : ∀ y, some row467 = some y → RowAt (.O (.O (.I (.O (.I (.O (.I (.I Pos.H)))))))) y := row_at rfl Tryz.func467 (by kernel_rfl) (by kernel_rfl)
theorem at468 : ∀ y, some row468 = some y → RowAt (.I (.O (.I (.O (.I (.O (.I (.I Pos.H)))))))) y := row_at rfl Tryz.func468 (by kernel_rfl) (by kernel_rfl)
theorem at469 : ∀ y, some row469 = some y → RowAt (.O (.I (.I (.O (.I (.O (.I (.I Pos.H)))))))) y := row_at rfl Tryz.func469 (by kernel_rfl) (by kernel_rfl)
theorem at470 : ∀ y, some row470 = some y → RowAt (.I (.I (.I (.O (.I (.O (.I (.I Pos.H)))))))) y := row_at rfl Tryz.func470 (by kernel_rfl) (by kernel_rfl)
theorem at471 : ∀ y, some row471 = some y → RowAt (.O (.O (.O (.I (.I (.O (.I (.I Pos.H)))))))) y := row_at rfl Tryz.func471 (by kernel_rfl) (by kernel_rfl)
theorem at472 : ∀ y, some row472 = some y → RowAt (.I (.O (.O (.I (.I (.O (.I (.I Pos.H)))))))) y := row_at rfl Tryz.func472 (by kernel_rfl) (by kernel_rfl)
theorem at473 : ∀ y, some row473 = some y → RowAt (.O (.I (.O (.I (.I (.O (.I (.I Pos.H)))))))) y := row_at rfl Tryz.func473 (by kernel_rfl) (by kernel_rfl)
theorem at474 : ∀ y, some row474 = some y → RowAt (.I (.I (.O (.I (.I (.O (.I (.I Pos.H)))))))) y := row_at rfl Tryz.func474 (by kernel_rfl) (by kernel_rfl)
theorem at475 : ∀ y, some row475 = some y → RowAt (.O (.O (.I (.I (.I (.O (.I (.I Pos.H)))))))) y := row_at rfl Tryz.func475 (by kernel_rfl) (by kernel_rfl)
theorem at476 : ∀ y, some row476 = some y → RowAt (.I (.O (.I (.I (.I (.O (.I (.I Pos.H)))))))) y := row_at rfl Tryz.func476 (by kernel_rfl) (by kernel_rfl)
theorem at477 : ∀ y, some row477 = some y → RowAt (.O (.I (.I (.I (.I (.O (.I (.I Pos.H)))))))) y := row_at rfl Tryz.func477 (by kernel_rfl) (by kernel_rfl)
theorem at478 : ∀ y, some row478 = some y → RowAt (.I (.I (.I (.I (.I (.O (.I (.I Pos.H)))))))) y := row_at rfl Tryz.func478 (by kernel_rfl) (by kernel_rfl)
theorem at479 : ∀ y, some row479 = some y → RowAt (.O (.O (.O (.O (.O (.I (.I (.I Pos.H)))))))) y := row_at rfl Tryz.func479 (by kernel_rfl) (by kernel_rfl)
theorem at480 : ∀ y, some row480 = some y → RowAt (.I (.O (.O (.O (.O (.I (.I (.I Pos.H)))))))) y := row_at rfl Tryz.func480 (by kernel_rfl) (by kernel_rfl)
theorem at481 : ∀ y, some row481 = some y → RowAt (.O (.I (.O (.O (.O (.I (.I (.I Pos.H)))))))) y := row_at rfl Tryz.func481 (by kernel_rfl) (by kernel_rfl)
theorem at482 : ∀ y, some row482 = some y → RowAt (.I (.I (.O (.O (.O (.I (.I (.I Pos.H)))))))) y := row_at rfl Tryz.func482 (by kernel_rfl) (by kernel_rfl)
theorem at483 : ∀ y, some row483 = some y → RowAt (.O (.O (.I (.O (.O (.I (.I (.I Pos.H)))))))) y := row_at rfl Tryz.func483 (by kernel_rfl) (by kernel_rfl)
theorem at484 : ∀ y, some row484 = some y → RowAt (.I (.O (.I (.O (.O (.I (.I (.I Pos.H)))))))) y := row_at rfl Tryz.func484 (by kernel_rfl) (by kernel_rfl)
theorem at485 : ∀ y, some row485 = some y → RowAt (.O (.I (.I (.O (.O (.I (.I (.I Pos.H)))))))) y := row_at rfl Tryz.func485 (by kernel_rfl) (by kernel_rfl)
theorem at486 : ∀ y, some row486 = some y → RowAt (.I (.I (.I (.O (.O (.I (.I (.I Pos.H)))))))) y := row_at rfl Tryz.func486 (by kernel_rfl) (by kernel_rfl)
theorem at487 : ∀ y, some row487 = some y → RowAt (.O (.O (.O (.I (.O (.I (.I (.I Pos.H)))))))) y := row_at rfl Tryz.func487 (by kernel_rfl) (by kernel_rfl)
theorem at488 : ∀ y, some row488 = some y → RowAt (.I (.O (.O (.I (.O (.I (.I (.I Pos.H)))))))) y := row_at rfl Tryz.func488 (by kernel_rfl) (by kernel_rfl)
theorem at489 : ∀ y, some row489 = some y → RowAt (.O (.I (.O (.I (.O (.I (.I (.I Pos.H)))))))) y := row_at rfl Tryz.func489 (by kernel_rfl) (by kernel_rfl)
theorem at490 : ∀ y, some row490 = some y → RowAt (.I (.I (.O (.I (.O (.I (.I (.I Pos.H)))))))) y := row_at rfl Tryz.func490 (by kernel_rfl) (by kernel_rfl)
theorem at491 : ∀ y, some row491 = some y → RowAt (.O (.O (.I (.I (.O (.I (.I (.I Pos.H)))))))) y := row_at rfl Tryz.func491 (by kernel_rfl) (by kernel_rfl)
theorem at492 : ∀ y, some row492 = some y → RowAt (.I (.O (.I (.I (.O (.I (.I (.I Pos.H)))))))) y := row_at rfl Tryz.func492 (by kernel_rfl) (by kernel_rfl)
theorem at493 : ∀ y, some row493 = some y → RowAt (.O (.I (.I (.I (.O (.I (.I (.I Pos.H)))))))) y := row_at rfl Tryz.func493 (by kernel_rfl) (by kernel_rfl)
theorem at494 : ∀ y, some row494 = some y → RowAt (.I (.I (.I (.I (.O (.I (.I (.I Pos.H)))))))) y := row_at rfl Tryz.func494 (by kernel_rfl) (by kernel_rfl)
theorem at495 : ∀ y, some row495 = some y → RowAt (.O (.O (.O (.O (.I (.I (.I (.I Pos.H)))))))) y := row_at rfl Tryz.func495 (by kernel_rfl) (by kernel_rfl)
theorem at496 : ∀ y, some row496 = some y → RowAt (.I (.O (.O (.O (.I (.I (.I (.I Pos.H)))))))) y := row_at rfl Tryz.func496 (by kernel_rfl) (by kernel_rfl)
theorem at497 : ∀ y, some row497 = some y → RowAt (.O (.I (.O (.O (.I (.I (.I (.I Pos.H)))))))) y := row_at rfl Tryz.func497 (by kernel_rfl) (by kernel_rfl)
theorem at498 : ∀ y, some row498 = some y → RowAt (.I (.I (.O (.O (.I (.I (.I (.I Pos.H)))))))) y := row_at rfl Tryz.func498 (by kernel_rfl) (by kernel_rfl)
theorem at499 : ∀ y, some row499 = some y → RowAt (.O (.O (.I (.O (.I (.I (.I (.I Pos.H)))))))) y := row_at rfl Tryz.func499 (by kernel_rfl) (by kernel_rfl)
theorem at500 : ∀ y, some row500 = some y → RowAt (.I (.O (.I (.O (.I (.I (.I (.I Pos.H)))))))) y := row_at rfl Tryz.func500 (by kernel_rfl) (by kernel_rfl)
theorem at501 : ∀ y, some row501 = some y → RowAt (.O (.I (.I (.O (.I (.I (.I (.I Pos.H)))))))) y := row_at rfl Tryz.func501 (by kernel_rfl) (by kernel_rfl)
theorem at502 : ∀ y, some row502 = some y → RowAt (.I (.I (.I (.O (.I (.I (.I (.I Pos.H)))))))) y := row_at rfl Tryz.func502 (by kernel_rfl) (by kernel_rfl)
theorem at503 : ∀ y, some row503 = some y → RowAt (.O (.O (.O (.I (.I (.I (.I (.I Pos.H)))))))) y := row_at rfl Tryz.func503 (by kernel_rfl) (by kernel_rfl)
theorem at504 : ∀ y, some row504 = some y → RowAt (.I (.O (.O (.I (.I (.I (.I (.I Pos.H)))))))) y := row_at rfl Tryz.func504 (by kernel_rfl) (by kernel_rfl)
theorem at505 : ∀ y, some row505 = some y → RowAt (.O (.I (.O (.I (.I (.I (.I (.I Pos.H)))))))) y := row_at rfl Tryz.func505 (by kernel_rfl) (by kernel_rfl)
theorem at506 : ∀ y, some row506 = some y → RowAt (.I (.I (.O (.I (.I (.I (.I (.I Pos.H)))))))) y := row_at rfl Tryz.func506 (by kernel_rfl) (by kernel_rfl)
theorem at507 : ∀ y, some row507 = some y → RowAt (.O (.O (.I (.I (.I (.I (.I (.I Pos.H)))))))) y := row_at rfl Tryz.func507 (by kernel_rfl) (by kernel_rfl)
theorem at508 : ∀ y, some row508 = some y → RowAt (.I (.O (.I (.I (.I (.I (.I (.I Pos.H)))))))) y := row_at rfl Tryz.func508 (by kernel_rfl) (by kernel_rfl)
theorem at509 : ∀ y, some row509 = some y → RowAt (.O (.I (.I (.I (.I (.I (.I (.I Pos.H)))))))) y := row_at rfl Tryz.func509 (by kernel_rfl) (by kernel_rfl)
theorem at510 : ∀ y, some row510 = some y → RowAt (.I (.I (.I (.I (.I (.I (.I (.I Pos.H)))))))) y := row_at rfl Tryz.func510 (by kernel_rfl) (by kernel_rfl)
theorem at511 : ∀ y, some row511 = some y → RowAt (.O (.O (.O (.O (.O (.O (.O (.O (.O Pos.H))))))))) y := row_at rfl Tryz.func511 (by kernel_rfl) (by kernel_rfl)
theorem at512 : ∀ y, some row512 = some y → RowAt (.I (.O (.O (.O (.O (.O (.O (.O (.O Pos.H))))))))) y := row_at rfl Tryz.func512 (by kernel_rfl) (by kernel_rfl)
theorem at513 : ∀ y, some row513 = some y → RowAt (.O (.I (.O (.O (.O (.O (.O (.O (.O Pos.H))))))))) y := row_at rfl Tryz.func513 (by kernel_rfl) (by kernel_rfl)
theorem at514 : ∀ y, some row514 = some y → RowAt (.I (.I (.O (.O (.O (.O (.O (.O (.O Pos.H))))))))) y := row_at rfl Tryz.func514 (by kernel_rfl) (by kernel_rfl)
theorem at515 : ∀ y, some row515 = some y → RowAt (.O (.O (.I (.O (.O (.O (.O (.O (.O Pos.H))))))))) y := row_at rfl Tryz.func515 (by kernel_rfl) (by kernel_rfl)
theorem at516 : ∀ y, some row516 = some y → RowAt (.I (.O (.I (.O (.O (.O (.O (.O (.O Pos.H))))))))) y := row_at rfl Tryz.func516 (by kernel_rfl) (by kernel_rfl)
theorem at517 : ∀ y, some row517 = some y → RowAt (.O (.I (.I (.O (.O (.O (.O (.O (.O Pos.H))))))))) y := row_at rfl Tryz.func517 (by kernel_rfl) (by kernel_rfl)
theorem at518 : ∀ y, some row518 = some y → RowAt (.I (.I (.I (.O (.O (.O (.O (.O (.O Pos.H))))))))) y := row_at rfl Tryz.func518 (by kernel_rfl) (by kernel_rfl)
theorem at519 : ∀ y, some row519 = some y → RowAt (.O (.O (.O (.I (.O (.O (.O (.O (.O Pos.H))))))))) y := row_at rfl Tryz.func519 (by kernel_rfl) (by kernel_rfl)
theorem at520 : ∀ y, some row520 = some y → RowAt (.I (.O (.O (.I (.O (.O (.O (.O (.O Pos.H))))))))) y := row_at rfl Tryz.func520 (by kernel_rfl) (by kernel_rfl)
theorem at521 : ∀ y, some row521 = some y → RowAt (.O (.I (.O (.I (.O (.O (.O (.O (.O Pos.H))))))))) y := row_at rfl Tryz.func521 (by kernel_rfl) (by kernel_rfl)
theorem at522 : ∀ y, some row522 = some y → RowAt (.I (.I (.O (.I (.O (.O (.O (.O (.O Pos.H))))))))) y := row_at rfl Tryz.func522 (by kernel_rfl) (by kernel_rfl)
theorem at523 : ∀ y, some row523 = some y → RowAt (.O (.O (.I (.I (.O (.O (.O (.O (.O Pos.H))))))))) y := row_at rfl Tryz.func523 (by kernel_rfl) (by kernel_rfl)
theorem at524 : ∀ y, some row524 = some y → RowAt (.I (.O (.I (.I (.O (.O (.O (.O (.O Pos.H))))))))) y := row_at rfl Tryz.func524 (by kernel_rfl) (by kernel_rfl)
theorem at525 : ∀ y, some row525 = some y → RowAt (.O (.I (.I (.I (.O (.O (.O (.O (.O Pos.H))))))))) y := row_at rfl Tryz.func525 (by kernel_rfl) (by kernel_rfl)
theorem at526 : ∀ y, some row526 = some y → RowAt (.I (.I (.I (.I (.O (.O (.O (.O (.O Pos.H))))))))) y := row_at rfl Tryz.func526 (by kernel_rfl) (by kernel_rfl)
theorem at527 : ∀ y, some row527 = some y → RowAt (.O (.O (.O (.O (.I (.O (.O (.O (.O Pos.H))))))))) y := row_at rfl Tryz.func527 (by kernel_rfl) (by kernel_rfl)
theorem at528 : ∀ y, some row528 = some y → RowAt (.I (.O (.O (.O (.I (.O (.O (.O (.O Pos.H))))))))) y := row_at rfl Tryz.func528 (by kernel_rfl) (by kernel_rfl)
theorem at529 : ∀ y, some row529 = some y → RowAt (.O (.I (.O (.O (.I (.O (.O (.O (.O Pos.H))))))))) y := row_at rfl Tryz.func529 (by kernel_rfl) (by kernel_rfl)
theorem at530 : ∀ y, some row530 = some y → RowAt (.I (.I (.O (.O (.I (.O (.O (.O (.O Pos.H))))))))) y := row_at rfl Tryz.func530 (by kernel_rfl) (by kernel_rfl)
theorem at531 : ∀ y, some row531 = some y → RowAt (.O (.O (.I (.O (.I (.O (.O (.O (.O Pos.H))))))))) y := row_at rfl Tryz.func531 (by kernel_rfl) (by kernel_rfl)
theorem at532 : ∀ y, some row532 = some y → RowAt (.I (.O (.I (.O (.I (.O (.O (.O (.O Pos.H))))))))) y := row_at rfl Tryz.func532 (by kernel_rfl) (by kernel_rfl)
theorem at533 : ∀ y, some row533 = some y → RowAt (.O (.I (.I (.O (.I (.O (.O (.O (.O Pos.H))))))))) y := row_at rfl Tryz.func533 (by kernel_rfl) (by kernel_rfl)
theorem at534 : ∀ y, some row534 = some y → RowAt (.I (.I (.I (.O (.I (.O (.O (.O (.O Pos.H))))))))) y := row_at rfl Tryz.func534 (by kernel_rfl) (by kernel_rfl)
theorem at535 : ∀ y, some row535 = some y → RowAt (.O (.O (.O (.I (.I (.O (.O (.O (.O Pos.H))))))))) y := row_at rfl Tryz.func535 (by kernel_rfl) (by kernel_rfl)
theorem at536 : ∀ y, some row536 = some y → RowAt (.I (.O (.O (.I (.I (.O (.O (.O (.O Pos.H))))))))) y := row_at rfl Tryz.func536 (by kernel_rfl) (by kernel_rfl)
theorem at537 : ∀ y, some row537 = some y → RowAt (.O (.I (.O (.I (.I (.O (.O (.O (.O Pos.H))))))))) y := row_at rfl Tryz.func537 (by kernel_rfl) (by kernel_rfl)
theorem at538 : ∀ y, some row538 = some y → RowAt (.I (.I (.O (.I (.I (.O (.O (.O (.O Pos.H))))))))) y := row_at rfl Tryz.func538 (by kernel_rfl) (by kernel_rfl)
theorem at539 : ∀ y, some row539 = some y → RowAt (.O (.O (.I (.I (.I (.O (.O (.O (.O Pos.H))))))))) y := row_at rfl Tryz.func539 (by kernel_rfl) (by kernel_rfl)
theorem at540 : ∀ y, some row540 = some y → RowAt (.I (.O (.I (.I (.I (.O (.O (.O (.O Pos.H))))))))) y := row_at rfl Tryz.func540 (by kernel_rfl) (by kernel_rfl)
theorem at541 : ∀ y, some row541 = some y → RowAt (.O (.I (.I (.I (.I (.O (.O (.O (.O Pos.H))))))))) y := row_at rfl Tryz.func541 (by kernel_rfl) (by kernel_rfl)
theorem at542 : ∀ y, some row542 = some y → RowAt (.I (.I (.I (.I (.I (.O (.O (.O (.O Pos.H))))))))) y := row_at rfl Tryz.func542 (by kernel_rfl) (by kernel_rfl)
theorem at543 : ∀ y, some row543 = some y → RowAt (.O (.O (.O (.O (.O (.I (.O (.O (.O Pos.H))))))))) y := row_at rfl Tryz.func543 (by kernel_rfl) (by kernel_rfl)
theorem at544 : ∀ y, some row544 = some y → RowAt (.I (.O (.O (.O (.O (.I (.O (.O (.O Pos.H))))))))) y := row_at rfl Tryz.func544 (by kernel_rfl) (by kernel_rfl)
theorem at545 : ∀ y, some row545 = some y → RowAt (.O (.I (.O (.O (.O (.I (.O (.O (.O Pos.H))))))))) y := row_at rfl Tryz.func545 (by kernel_rfl) (by kernel_rfl)
theorem at546 : ∀ y, some row546 = some y → RowAt (.I (.I (.O (.O (.O (.I (.O (.O (.O Pos.H))))))))) y := row_at rfl Tryz.func546 (by kernel_rfl) (by kernel_rfl)
theorem at547 : ∀ y, some row547 = some y → RowAt (.O (.O (.I (.O (.O (.I (.O (.O (.O Pos.H))))))))) y := row_at rfl Tryz.func547 (by kernel_rfl) (by kernel_rfl)
theorem at548 : ∀ y, some row548 = some y → RowAt (.I (.O (.I (.O (.O (.I (.O (.O (.O Pos.H))))))))) y := row_at rfl Tryz.func548 (by kernel_rfl) (by kernel_rfl)
theorem at549 : ∀ y, some row549 = some y → RowAt (.O (.I (.I (.O (.O (.I (.O (.O (.O Pos.H))))))))) y := row_at rfl Tryz.func549 (by kernel_rfl) (by kernel_rfl)
theorem at550 : ∀ y, some row550 = some y → RowAt (.I (.I (.I (.O (.O (.I (.O (.O (.O Pos.H))))))))) y := row_at rfl Tryz.func550 (by kernel_rfl) (by kernel_rfl)
theorem at551 : ∀ y, some row551 = some y → RowAt (.O (.O (.O (.I (.O (.I (.O (.O (.O Pos.H))))))))) y := row_at rfl Tryz.func551 (by kernel_rfl) (by kernel_rfl)
theorem at552 : ∀ y, some row552 = some y → RowAt (.I (.O (.O (.I (.O (.I (.O (.O (.O Pos.H))))))))) y := row_at rfl Tryz.func552 (by kernel_rfl) (by kernel_rfl)
theorem at553 : ∀ y, some row553 = some y → RowAt (.O (.I (.O (.I (.O (.I (.O (.O (.O Pos.H))))))))) y := row_at rfl Tryz.func553 (by kernel_rfl) (by kernel_rfl)
theorem at554 : ∀ y, some row554 = some y → RowAt (.I (.I (.O (.I (.O (.I (.O (.O (.O Pos.H))))))))) y := row_at rfl Tryz.func554 (by kernel_rfl) (by kernel_rfl)
theorem at555 : ∀ y, some row555 = some y → RowAt (.O (.O (.I (.I (.O (.I (.O (.O (.O Pos.H))))))))) y := row_at rfl Tryz.func555 (by kernel_rfl) (by kernel_rfl)
theorem at556 : ∀ y, some row556 = some y → RowAt (.I (.O (.I (.I (.O (.I (.O (.O (.O Pos.H))))))))) y := row_at rfl Tryz.func556 (by kernel_rfl) (by kernel_rfl)
theorem at557 : ∀ y, some row557 = some y → RowAt (.O (.I (.I (.I (.O (.I (.O (.O (.O Pos.H))))))))) y := row_at rfl Tryz.func557 (by kernel_rfl) (by kernel_rfl)
theorem at558 : ∀ y, some row558 = some y → RowAt (.I (.I (.I (.I (.O (.I (.O (.O (.O Pos.H))))))))) y := row_at rfl Tryz.func558 (by kernel_rfl) (by kernel_rfl)
theorem at559 : ∀ y, some row559 = some y → RowAt (.O (.O (.O (.O (.I (.I (.O (.O (.O Pos.H))))))))) y := row_at rfl Tryz.func559 (by kernel_rfl) (by kernel_rfl)
theorem at560 : ∀ y, some row560 = some y → RowAt (.I (.O (.O (.O (.I (.I (.O (.O (.O Pos.H))))))))) y := row_at rfl Tryz.func560 (by kernel_rfl) (by kernel_rfl)
theorem at561 : ∀ y, some row561 = some y → RowAt (.O (.I (.O (.O (.I (.I (.O (.O (.O Pos.H))))))))) y := row_at rfl Tryz.func561 (by kernel_rfl) (by kernel_rfl)
theorem at562 : ∀ y, some row562 = some y → RowAt (.I (.I (.O (.O (.I (.I (.O (.O (.O Pos.H))))))))) y := row_at rfl Tryz.func562 (by kernel_rfl) (by kernel_rfl)
theorem at563 : ∀ y, some row563 = some y → RowAt (.O (.O (.I (.O (.I (.I (.O (.O (.O Pos.H))))))))) y := row_at rfl Tryz.func563 (by kernel_rfl) (by kernel_rfl)
theorem at564 : ∀ y, some row564 = some y → RowAt (.I (.O (.I (.O (.I (.I (.O (.O (.O Pos.H))))))))) y := row_at rfl Tryz.func564 (by kernel_rfl) (by kernel_rfl)
theorem at565 : ∀ y, some row565 = some y → RowAt (.O (.I (.I (.O (.I (.I (.O (.O (.O Pos.H))))))))) y := row_at rfl Tryz.func565 (by kernel_rfl) (by kernel_rfl)
theorem at566 : ∀ y, some row566 = some y → RowAt (.I (.I (.I (.O (.I (.I (.O (.O (.O Pos.H))))))))) y := row_at rfl Tryz.func566 (by kernel_rfl) (by kernel_rfl)
theorem at567 : ∀ y, some row567 = some y → RowAt (.O (.O (.O (.I (.I (.I (.O (.O (.O Pos.H))))))))) y := row_at rfl Tryz.func567 (by kernel_rfl) (by kernel_rfl)
theorem at568 : ∀ y, some row568 = some y → RowAt (.I (.O (.O (.I (.I (.I (.O (.O (.O Pos.H))))))))) y := row_at rfl Tryz.func568 (by kernel_rfl) (by kernel_rfl)
theorem at569 : ∀ y, some row569 = some y → RowAt (.O (.I (.O (.I (.I (.I (.O (.O (.O Pos.H))))))))) y := row_at rfl Tryz.func569 (by kernel_rfl) (by kernel_rfl)
theorem at570 : ∀ y, some row570 = some y → RowAt (.I (.I (.O (.I (.I (.I (.O (.O (.O Pos.H))))))))) y := row_at rfl Tryz.func570 (by kernel_rfl) (by kernel_rfl)
theorem at571 : ∀ y, some row571 = some y → RowAt (.O (.O (.I (.I (.I (.I (.O (.O (.O Pos.H))))))))) y := row_at rfl Tryz.func571 (by kernel_rfl) (by kernel_rfl)
theorem at572 : ∀ y, some row572 = some y → RowAt (.I (.O (.I (.I (.I (.I (.O (.O (.O Pos.H))))))))) y := row_at rfl Tryz.func572 (by kernel_rfl) (by kernel_rfl)
theorem at573 : ∀ y, some row573 = some y → RowAt (.O (.I (.I (.I (.I (.I (.O (.O (.O Pos.H))))))))) y := row_at rfl Tryz.func573 (by kernel_rfl) (by kernel_rfl)
theorem at574 : ∀ y, some row574 = some y → RowAt (.I (.I (.I (.I (.I (.I (.O (.O (.O Pos.H))))))))) y := row_at rfl Tryz.func574 (by kernel_rfl) (by kernel_rfl)
theorem at575 : ∀ y, some row575 = some y → RowAt (.O (.O (.O (.O (.O (.O (.I (.O (.O Pos.H))))))))) y := row_at rfl Tryz.func575 (by kernel_rfl) (by kernel_rfl)
theorem at576 : ∀ y, some row576 = some y → RowAt (.I (.O (.O (.O (.O (.O (.I (.O (.O Pos.H))))))))) y := row_at rfl Tryz.func576 (by kernel_rfl) (by kernel_rfl)
theorem at577 : ∀ y, some row577 = some y → RowAt (.O (.I (.O (.O (.O (.O (.I (.O (.O Pos.H))))))))) y := row_at rfl Tryz.func577 (by kernel_rfl) (by kernel_rfl)
theorem at578 : ∀ y, some row578 = some y → RowAt (.I (.I (.O (.O (.O (.O (.I (.O (.O Pos.H))))))))) y := row_at rfl Tryz.func578 (by kernel_rfl) (by kernel_rfl)
theorem at579 : ∀ y, some row579 = some y → RowAt (.O (.O (.I (.O (.O (.O (.I (.O (.O Pos.H))))))))) y := row_at rfl Tryz.func579 (by kernel_rfl) (by kernel_rfl)
theorem at580 : ∀ y, some row580 = some y → RowAt (.I (.O (.I (.O (.O (.O (.I (.O (.O Pos.H))))))))) y := row_at rfl Tryz.func580 (by kernel_rfl) (by kernel_rfl)
theorem at581 : ∀ y, some row581 = some y → RowAt (.O (.I (.I (.O (.O (.O (.I (.O (.O Pos.H))))))))) y := row_at rfl Tryz.func581 (by kernel_rfl) (by kernel_rfl)
theorem at582 : ∀ y, some row582 = some y → RowAt (.I (.I (.I (.O (.O (.O (.I (.O (.O Pos.H))))))))) y := row_at rfl Tryz.func582 (by kernel_rfl) (by kernel_rfl)
theorem at583 : ∀ y, some row583 = some y → RowAt (.O (.O (.O (.I (.O (.O (.I (.O (.O Pos.H))))))))) y := row_at rfl Tryz.func583 (by kernel_rfl) (by kernel_rfl)
theorem at584 : ∀ y, some row584 = some y → RowAt (.I (.O (.O (.I (.O (.O (.I (.O (.O Pos.H))))))))) y := row_at rfl Tryz.func584 (by kernel_rfl) (by kernel_rfl)
theorem at585 : ∀ y, some row585 = some y → RowAt (.O (.I (.O (.I (.O (.O (.I (.O (.O Pos.H))))))))) y := row_at rfl Tryz.func585 (by kernel_rfl) (by kernel_rfl)
theorem at586 : ∀ y, some row586 = some y → RowAt (.I (.I (.O (.I (.O (.O (.I (.O (.O Pos.H))))))))) y := row_at rfl Tryz.func586 (by kernel_rfl) (by kernel_rfl)
theorem at587 : ∀ y, some row587 = some y → RowAt (.O (.O (.I (.I (.O (.O (.I (.O (.O Pos.H))))))))) y := row_at rfl Tryz.func587 (by kernel_rfl) (by kernel_rfl)
theorem at588 : ∀ y, some row588 = some y → RowAt (.I (.O (.I (.I (.O (.O (.I (.O (.O Pos.H))))))))) y := row_at rfl Tryz.func588 (by kernel_rfl) (by kernel_rfl)
theorem at589 : ∀ y, some row589 = some y → RowAt (.O (.I (.I (.I (.O (.O (.I (.O (.O Pos.H))))))))) y := row_at rfl Tryz.func589 (by kernel_rfl) (by kernel_rfl)
theorem at590 : ∀ y, some row590 = some y → RowAt (.I (.I (.I (.I (.O (.O (.I (.O (.O Pos.H))))))))) y := row_at rfl Tryz.func590 (by kernel_rfl) (by kernel_rfl)
theorem at591 : ∀ y, some row591 = some y → RowAt (.O (.O (.O (.O (.I (.O (.I (.O (.O Pos.H))))))))) y := row_at rfl Tryz.func591 (by kernel_rfl) (by kernel_rfl)
theorem at592 : ∀ y, some row592 = some y → RowAt (.I (.O (.O (.O (.I (.O (.I (.O (.O Pos.H))))))))) y := row_at rfl Tryz.func592 (by kernel_rfl) (by kernel_rfl)
theorem at593 : ∀ y, some row593 = some y → RowAt (.O (.I (.O (.O (.I (.O (.I (.O (.O Pos.H))))))))) y := row_at rfl Tryz.func593 (by kernel_rfl) (by kernel_rfl)
theorem at594 : ∀ y, some row594 = some y → RowAt (.I (.I (.O (.O (.I (.O (.I (.O (.O Pos.H))))))))) y := row_at rfl Tryz.func594 (by kernel_rfl) (by kernel_rfl)
theorem at595 : ∀ y, some row595 = some y → RowAt (.O (.O (.I (.O (.I (.O (.I (.O (.O Pos.H))))))))) y := row_at rfl Tryz.func595 (by kernel_rfl) (by kernel_rfl)
theorem at596 : ∀ y, some row596 = some y → RowAt (.I (.O (.I (.O (.I (.O (.I (.O (.O Pos.H))))))))) y := row_at rfl Tryz.func596 (by kernel_rfl) (by kernel_rfl)
theorem at597 : ∀ y, some row597 = some y → RowAt (.O (.I (.I (.O (.I (.O (.I (.O (.O Pos.H))))))))) y := row_at rfl Tryz.func597 (by kernel_rfl) (by kernel_rfl)
theorem at598 : ∀ y, some row598 = some y → RowAt (.I (.I (.I (.O (.I (.O (.I (.O (.O Pos.H))))))))) y := row_at rfl Tryz.func598 (by kernel_rfl) (by kernel_rfl)
theorem at599 : ∀ y, some row599 = some y → RowAt (.O (.O (.O (.I (.I (.O (.I (.O (.O Pos.H))))))))) y := row_at rfl Tryz.func599 (by kernel_rfl) (by kernel_rfl)
theorem at600 : ∀ y, some row600 = some y → RowAt (.I (.O (.O (.I (.I (.O (.I (.O (.O Pos.H))))))))) y := row_at rfl Tryz.func600 (by kernel_rfl) (by kernel_rfl)
theorem at601 : ∀ y, some row601 = some y → RowAt (.O (.I (.O (.I (.I (.O (.I (.O (.O Pos.H))))))))) y := row_at rfl Tryz.func601 (by kernel_rfl) (by kernel_rfl)
theorem at602 : ∀ y, some row602 = some y → RowAt (.I (.I (.O (.I (.I (.O (.I (.O (.O Pos.H))))))))) y := row_at rfl Tryz.func602 (by kernel_rfl) (by kernel_rfl)
theorem at603 : ∀ y, some row603 = some y → RowAt (.O (.O (.I (.I (.I (.O (.I (.O (.O Pos.H))))))))) y := row_at rfl Tryz.func603 (by kernel_rfl) (by kernel_rfl)
theorem at604 : ∀ y, some row604 = some y → RowAt (.I (.O (.I (.I (.I (.O (.I (.O (.O Pos.H))))))))) y := row_at rfl Tryz.func604 (by kernel_rfl) (by kernel_rfl)
theorem at605 : ∀ y, some row605 = some y → RowAt (.O (.I (.I (.I (.I (.O (.I (.O (.O Pos.H))))))))) y := row_at rfl Tryz.func605 (by kernel_rfl) (by kernel_rfl)
theorem at606 : ∀ y, some row606 = some y → RowAt (.I (.I (.I (.I (.I (.O (.I (.O (.O Pos.H))))))))) y := row_at rfl Tryz.func606 (by kernel_rfl) (by kernel_rfl)
theorem at607 : ∀ y, some row607 = some y → RowAt (.O (.O (.O (.O (.O (.I (.I (.O (.O Pos.H))))))))) y := row_at rfl Tryz.func607 (by kernel_rfl) (by kernel_rfl)
theorem at608 : ∀ y, some row608 = some y → RowAt (.I (.O (.O (.O (.O (.I (.I (.O (.O Pos.H))))))))) y := row_at rfl Tryz.func608 (by kernel_rfl) (by kernel_rfl)
theorem at609 : ∀ y, some row609 = some y → RowAt (.O (.I (.O (.O (.O (.I (.I (.O (.O Pos.H))))))))) y := row_at rfl Tryz.func609 (by kernel_rfl) (by kernel_rfl)
theorem at610 : ∀ y, some row610 = some y → RowAt (.I (.I (.O (.O (.O (.I (.I (.O (.O Pos.H))))))))) y := row_at rfl Tryz.func610 (by kernel_rfl) (by kernel_rfl)
theorem at611 : ∀ y, some row611 = some y → RowAt (.O (.O (.I (.O (.O (.I (.I (.O (.O Pos.H))))))))) y := row_at rfl Tryz.func611 (by kernel_rfl) (by kernel_rfl)
theorem at612 : ∀ y, some row612 = some y → RowAt (.I (.O (.I (.O (.O (.I (.I (.O (.O Pos.H))))))))) y := row_at rfl Tryz.func612 (by kernel_rfl) (by kernel_rfl)
theorem at613 : ∀ y, some row613 = some y → RowAt (.O (.I (.I (.O (.O (.I (.I (.O (.O Pos.H))))))))) y := row_at rfl Tryz.func613 (by kernel_rfl) (by kernel_rfl)
theorem at614 : ∀ y, some row614 = some y → RowAt (.I (.I (.I (.O (.O (.I (.I (.O (.O Pos.H))))))))) y := row_at rfl Tryz.func614 (by kernel_rfl) (by kernel_rfl)
theorem at615 : ∀ y, some row615 = some y → RowAt (.O (.O (.O (.I (.O (.I (.I (.O (.O Pos.H))))))))) y := row_at rfl Tryz.func615 (by kernel_rfl) (by kernel_rfl)
theorem at616 : ∀ y, some row616 = some y → RowAt (.I (.O (.O (.I (.O (.I (.I (.O (.O Pos.H))))))))) y := row_at rfl Tryz.func616 (by kernel_rfl) (by kernel_rfl)
theorem at617 : ∀ y, some row617 = some y → RowAt (.O (.I (.O (.I (.O (.I (.I (.O (.O Pos.H))))))))) y := row_at rfl Tryz.func617 (by kernel_rfl) (by kernel_rfl)
theorem at618 : ∀ y, some row618 = some y → RowAt (.I (.I (.O (.I (.O (.I (.I (.O (.O Pos.H))))))))) y := row_at rfl Tryz.func618 (by kernel_rfl) (by kernel_rfl)
theorem at619 : ∀ y, some row619 = some y → RowAt (.O (.O (.I (.I (.O (.I (.I (.O (.O Pos.H))))))))) y := row_at rfl Tryz.func619 (by kernel_rfl) (by kernel_rfl)
theorem at620 : ∀ y, some row620 = some y → RowAt (.I (.O (.I (.I (.O (.I (.I (.O (.O Pos.H))))))))) y := row_at rfl Tryz.func620 (by kernel_rfl) (by kernel_rfl)
theorem at621 : ∀ y, some row621 = some y → RowAt (.O (.I (.I (.I (.O (.I (.I (.O (.O Pos.H))))))))) y := row_at rfl Tryz.func621 (by kernel_rfl) (by kernel_rfl)
theorem at622 : ∀ y, some row622 = some y → RowAt (.I (.I (.I (.I (.O (.I (.I (.O (.O Pos.H))))))))) y := row_at rfl Tryz.func622 (by kernel_rfl) (by kernel_rfl)
theorem at623 : ∀ y, some row623 = some y → RowAt (.O (.O (.O (.O (.I (.I (.I (.O (.O Pos.H))))))))) y := row_at rfl Tryz.func623 (by kernel_rfl) (by kernel_rfl)
theorem at624 : ∀ y, some row624 = some y → RowAt (.I (.O (.O (.O (.I (.I (.I (.O (.O Pos.H))))))))) y := row_at rfl Tryz.func624 (by kernel_rfl) (by kernel_rfl)
theorem at625 : ∀ y, some row625 = some y → RowAt (.O (.I (.O (.O (.I (.I (.I (.O (.O Pos.H))))))))) y := row_at rfl Tryz.func625 (by kernel_rfl) (by kernel_rfl)
theorem at626 : ∀ y, some row626 = some y → RowAt (.I (.I (.O (.O (.I (.I (.I (.O (.O Pos.H))))))))) y := row_at rfl Tryz.func626 (by kernel_rfl) (by kernel_rfl)
theorem at627 : ∀ y, some row627 = some y → RowAt (.O (.O (.I (.O (.I (.I (.I (.O (.O Pos.H))))))))) y := row_at rfl Tryz.func627 (by kernel_rfl) (by kernel_rfl)
theorem at628 : ∀ y, some row628 = some y → RowAt (.I (.O (.I (.O (.I (.I (.I (.O (.O Pos.H))))))))) y := row_at rfl Tryz.func628 (by kernel_rfl) (by kernel_rfl)
theorem at629 : ∀ y, some row629 = some y → RowAt (.O (.I (.I (.O (.I (.I (.I (.O (.O Pos.H))))))))) y := row_at rfl Tryz.func629 (by kernel_rfl) (by kernel_rfl)
theorem at630 : ∀ y, some row630 = some y → RowAt (.I (.I (.I (.O (.I (.I (.I (.O (.O Pos.H))))))))) y := row_at rfl Tryz.func630 (by kernel_rfl) (by kernel_rfl)
theorem at631 : ∀ y, some row631 = some y → RowAt (.O (.O (.O (.I (.I (.I (.I (.O (.O Pos.H))))))))) y := row_at rfl Tryz.func631 (by kernel_rfl) (by kernel_rfl)
theorem at632 : ∀ y, some row632 = some y → RowAt (.I (.O (.O (.I (.I (.I (.I (.O (.O Pos.H))))))))) y := row_at rfl Tryz.func632 (by kernel_rfl) (by kernel_rfl)
theorem at633 : ∀ y, some row633 = some y → RowAt (.O (.I (.O (.I (.I (.I (.I (.O (.O Pos.H))))))))) y := row_at rfl Tryz.func633 (by kernel_rfl) (by kernel_rfl)
theorem at634 : ∀ y, some row634 = some y → RowAt (.I (.I (.O (.I (.I (.I (.I (.O (.O Pos.H))))))))) y := row_at rfl Tryz.func634 (by kernel_rfl) (by kernel_rfl)
theorem at635 : ∀ y, some row635 = some y → RowAt (.O (.O (.I (.I (.I (.I (.I (.O (.O Pos.H))))))))) y := row_at rfl Tryz.func635 (by kernel_rfl) (by kernel_rfl)
theorem at636 : ∀ y, some row636 = some y → RowAt (.I (.O (.I (.I (.I (.I (.I (.O (.O Pos.H))))))))) y := row_at rfl Tryz.func636 (by kernel_rfl) (by kernel_rfl)
theorem at637 : ∀ y, some row637 = some y → RowAt (.O (.I (.I (.I (.I (.I (.I (.O (.O Pos.H))))))))) y := row_at rfl Tryz.func637 (by kernel_rfl) (by kernel_rfl)
theorem at638 : ∀ y, some row638 = some y → RowAt (.I (.I (.I (.I (.I (.I (.I (.O (.O Pos.H))))))))) y := row_at rfl Tryz.func638 (by kernel_rfl) (by kernel_rfl)
theorem at639 : ∀ y, some row639 = some y → RowAt (.O (.O (.O (.O (.O (.O (.O (.I (.O Pos.H))))))))) y := row_at rfl Tryz.func639 (by kernel_rfl) (by kernel_rfl)
theorem at640 : ∀ y, some row640 = some y → RowAt (.I (.O (.O (.O (.O (.O (.O (.I (.O Pos.H))))))))) y := row_at rfl Tryz.func640 (by kernel_rfl) (by kernel_rfl)
theorem at641 : ∀ y, some row641 = some y → RowAt (.O (.I (.O (.O (.O (.O (.O (.I (.O Pos.H))))))))) y := row_at rfl Tryz.func641 (by kernel_rfl) (by kernel_rfl)
theorem at642 : ∀ y, some row642 = some y → RowAt (.I (.I (.O (.O (.O (.O (.O (.I (.O Pos.H))))))))) y := row_at rfl Tryz.func642 (by kernel_rfl) (by kernel_rfl)
theorem at643 : ∀ y, some row643 = some y → RowAt (.O (.O (.I (.O (.O (.O (.O (.I (.O Pos.H))))))))) y := row_at rfl Tryz.func643 (by kernel_rfl) (by kernel_rfl)
theorem at644 : ∀ y, some row644 = some y → RowAt (.I (.O (.I (.O (.O (.O (.O (.I (.O Pos.H))))))))) y := row_at rfl Tryz.func644 (by kernel_rfl) (by kernel_rfl)
theorem at645 : ∀ y, some row645 = some y → RowAt (.O (.I (.I (.O (.O (.O (.O (.I (.O Pos.H))))))))) y := row_at rfl Tryz.func645 (by kernel_rfl) (by kernel_rfl)
theorem at646 : ∀ y, some row646 = some y → RowAt (.I (.I (.I (.O (.O (.O (.O (.I (.O Pos.H))))))))) y := row_at rfl Tryz.func646 (by kernel_rfl) (by kernel_rfl)
theorem at647 : ∀ y, some row647 = some y → RowAt (.O (.O (.O (.I (.O (.O (.O (.I (.O Pos.H))))))))) y := row_at rfl Tryz.func647 (by kernel_rfl) (by kernel_rfl)
theorem at648 : ∀ y, some row648 = some y → RowAt (.I (.O (.O (.I (.O (.O (.O (.I (.O Pos.H))))))))) y := row_at rfl Tryz.func648 (by kernel_rfl) (by kernel_rfl)
theorem at649 : ∀ y, some row649 = some y → RowAt (.O (.I (.O (.I (.O (.O (.O (.I (.O Pos.H))))))))) y := row_at rfl Tryz.func649 (by kernel_rfl) (by kernel_rfl)
theorem at650 : ∀ y, some row650 = some y → RowAt (.I (.I (.O (.I (.O (.O (.O (.I (.O Pos.H))))))))) y := row_at rfl Tryz.func650 (by kernel_rfl) (by kernel_rfl)
theorem at651 : ∀ y, some row651 = some y → RowAt (.O (.O (.I (.I (.O (.O (.O (.I (.O Pos.H))))))))) y := row_at rfl Tryz.func651 (by kernel_rfl) (by kernel_rfl)
theorem at652 : ∀ y, some row652 = some y → RowAt (.I (.O (.I (.I (.O (.O (.O (.I (.O Pos.H))))))))) y := row_at rfl Tryz.func652 (by kernel_rfl) (by kernel_rfl)
theorem at653 : ∀ y, some row653 = some y → RowAt (.O (.I (.I (.I (.O (.O (.O (.I (.O Pos.H))))))))) y := row_at rfl Tryz.func653 (by kernel_rfl) (by kernel_rfl)
theorem at654 : ∀ y, some row654 = some y → RowAt (.I (.I (.I (.I (.O (.O (.O (.I (.O Pos.H))))))))) y := row_at rfl Tryz.func654 (by kernel_rfl) (by kernel_rfl)
theorem at655 : ∀ y, some row655 = some y → RowAt (.O (.O (.O (.O (.I (.O (.O (.I (.O Pos.H))))))))) y := row_at rfl Tryz.func655 (by kernel_rfl) (by kernel_rfl)
theorem at656 : ∀ y, some row656 = some y → RowAt (.I (.O (.O (.O (.I (.O (.O (.I (.O Pos.H))))))))) y := row_at rfl Tryz.func656 (by kernel_rfl) (by kernel_rfl)
theorem at657 : ∀ y, some row657 = some y → RowAt (.O (.I (.O (.O (.I (.O (.O (.I (.O Pos.H))))))))) y := row_at rfl Tryz.func657 (by kernel_rfl) (by kernel_rfl)
theorem at658 : ∀ y, some row658 = some y → RowAt (.I (.I (.O (.O (.I (.O (.O (.I (.O Pos.H))))))))) y := row_at rfl Tryz.func658 (by kernel_rfl) (by kernel_rfl)
theorem at659 : ∀ y, some row659 = some y → RowAt (.O (.O (.I (.O (.I (.O (.O (.I (.O Pos.H))))))))) y := row_at rfl Tryz.func659 (by kernel_rfl) (by kernel_rfl)
theorem at660 : ∀ y, some row660 = some y → RowAt (.I (.O (.I (.O (.I (.O (.O (.I (.O Pos.H))))))))) y := row_at rfl Tryz.func660 (by kernel_rfl) (by kernel_rfl)
theorem at661 : ∀ y, some row661 = some y → RowAt (.O (.I (.I (.O (.I (.O (.O (.I (.O Pos.H))))))))) y := row_at rfl Tryz.func661 (by kernel_rfl) (by kernel_rfl)
theorem at662 : ∀ y, some row662 = some y → RowAt (.I (.I (.I (.O (.I (.O (.O (.I (.O Pos.H))))))))) y := row_at rfl Tryz.func662 (by kernel_rfl) (by kernel_rfl)
theorem at663 : ∀ y, some row663 = some y → RowAt (.O (.O (.O (.I (.I (.O (.O (.I (.O Pos.H))))))))) y := row_at rfl Tryz.func663 (by kernel_rfl) (by kernel_rfl)
theorem at664 : ∀ y, some row664 = some y → RowAt (.I (.O (.O (.I (.I (.O (.O (.I (.O Pos.H))))))))) y := row_at rfl Tryz.func664 (by kernel_rfl) (by kernel_rfl)
theorem at665 : ∀ y, some row665 = some y → RowAt (.O (.I (.O (.I (.I (.O (.O (.I (.O Pos.H))))))))) y := row_at rfl Tryz.func665 (by kernel_rfl) (by kernel_rfl)
theorem at666 : ∀ y, some row666 = some y → RowAt (.I (.I (.O (.I (.I (.O (.O (.I (.O Pos.H))))))))) y := row_at rfl Tryz.func666 (by kernel_rfl) (by kernel_rfl)
theorem at667 : ∀ y, some row667 = some y → RowAt (.O (.O (.I (.I (.I (.O (.O (.I (.O Pos.H))))))))) y := row_at rfl Tryz.func667 (by kernel_rfl) (by kernel_rfl)
theorem at668 : ∀ y, some row668 = some y → RowAt (.I (.O (.I (.I (.I (.O (.O (.I (.O Pos.H))))))))) y := row_at rfl Tryz.func668 (by kernel_rfl) (by kernel_rfl)
theorem at669 : ∀ y, some row669 = some y → RowAt (.O (.I (.I (.I (.I (.O (.O (.I (.O Pos.H))))))))) y := row_at rfl Tryz.func669 (by kernel_rfl) (by kernel_rfl)
theorem at670 : ∀ y, some row670 = some y → RowAt (.I (.I (.I (.I (.I (.O (.O (.I (.O Pos.H))))))))) y := row_at rfl Tryz.func670 (by kernel_rfl) (by kernel_rfl)
theorem at671 : ∀ y, some row671 = some y → RowAt (.O (.O (.O (.O (.O (.I (.O (.I (.O Pos.H))))))))) y := row_at rfl Tryz.func671 (by kernel_rfl) (by kernel_rfl)
theorem at672 : ∀ y, some row672 = some y → RowAt (.I (.O (.O (.O (.O (.I (.O (.I (.O Pos.H))))))))) y := row_at rfl Tryz.func672 (by kernel_rfl) (by kernel_rfl)
theorem at673 : ∀ y, some row673 = some y → RowAt (.O (.I (.O (.O (.O (.I (.O (.I (.O Pos.H))))))))) y := row_at rfl Tryz.func673 (by kernel_rfl) (by kernel_rfl)
theorem at674 : ∀ y, some row674 = some y → RowAt (.I (.I (.O (.O (.O (.I (.O (.I (.O Pos.H))))))))) y := row_at rfl Tryz.func674 (by kernel_rfl) (by kernel_rfl)
theorem at675 : ∀ y, some row675 = some y → RowAt (.O (.O (.I (.O (.O (.I (.O (.I (.O Pos.H))))))))) y := row_at rfl Tryz.func675 (by kernel_rfl) (by kernel_rfl)
theorem at676 : ∀ y, some row676 = some y → RowAt (.I (.O (.I (.O (.O (.I (.O (.I (.O Pos.H))))))))) y := row_at rfl Tryz.func676 (by kernel_rfl) (by kernel_rfl)
theorem at677 : ∀ y, some row677 = some y → RowAt (.O (.I (.I (.O (.O (.I (.O (.I (.O Pos.H))))))))) y := row_at rfl Tryz.func677 (by kernel_rfl) (by kernel_rfl)
theorem at678 : ∀ y, some row678 = some y → RowAt (.I (.I (.I (.O (.O (.I (.O (.I (.O Pos.H))))))))) y := row_at rfl Tryz.func678 (by kernel_rfl) (by kernel_rfl)
theorem at679 : ∀ y, some row679 = some y → RowAt (.O (.O (.O (.I (.O (.I (.O (.I (.O Pos.H))))))))) y := row_at rfl Tryz.func679 (by kernel_rfl) (by kernel_rfl)
theorem at680 : ∀ y, some row680 = some y → RowAt (.I (.O (.O (.I (.O (.I (.O (.I (.O Pos.H))))))))) y := row_at rfl Tryz.func680 (by kernel_rfl) (by kernel_rfl)
theorem at681 : ∀ y, some row681 = some y → RowAt (.O (.I (.O (.I (.O (.I (.O (.I (.O Pos.H))))))))) y := row_at rfl Tryz.func681 (by kernel_rfl) (by kernel_rfl)
theorem at682 : ∀ y, some row682 = some y → RowAt (.I (.I (.O (.I (.O (.I (.O (.I (.O Pos.H))))))))) y := row_at rfl Tryz.func682 (by kernel_rfl) (by kernel_rfl)
theorem at683 : ∀ y, some row683 = some y → RowAt (.O (.O (.I (.I (.O (.I (.O (.I (.O Pos.H))))))))) y := row_at rfl Tryz.func683 (by kernel_rfl) (by kernel_rfl)
theorem at684 : ∀ y, some row684 = some y → RowAt (.I (.O (.I (.I (.O (.I (.O (.I (.O Pos.H))))))))) y := row_at rfl Tryz.func684 (by kernel_rfl) (by kernel_rfl)
theorem at685 : ∀ y, some row685 = some y → RowAt (.O (.I (.I (.I (.O (.I (.O (.I (.O Pos.H))))))))) y := row_at rfl Tryz.func685 (by kernel_rfl) (by kernel_rfl)
theorem at686 : ∀ y, some row686 = some y → RowAt (.I (.I (.I (.I (.O (.I (.O (.I (.O Pos.H))))))))) y := row_at rfl Tryz.func686 (by kernel_rfl) (by kernel_rfl)
theorem at687 : ∀ y, some row687 = some y → RowAt (.O (.O (.O (.O (.I (.I (.O (.I (.O Pos.H))))))))) y := row_at rfl Tryz.func687 (by kernel_rfl) (by kernel_rfl)
theorem at688 : ∀ y, some row688 = some y → RowAt (.I (.O (.O (.O (.I (.I (.O (.I (.O Pos.H))))))))) y := row_at rfl Tryz.func688 (by kernel_rfl) (by kernel_rfl)
theorem at689 : ∀ y, some row689 = some y → RowAt (.O (.I (.O (.O (.I (.I (.O (.I (.O Pos.H))))))))) y := row_at rfl Tryz.func689 (by kernel_rfl) (by kernel_rfl)
theorem at690 : ∀ y, some row690 = some y → RowAt (.I (.I (.O (.O (.I (.I (.O (.I (.O Pos.H))))))))) y := row_at rfl Tryz.func690 (by kernel_rfl) (by kernel_rfl)
theorem at691 : ∀ y, some row691 = some y → RowAt (.O (.O (.I (.O (.I (.I (.O (.I (.O Pos.H))))))))) y := row_at rfl Tryz.func691 (by kernel_rfl) (by kernel_rfl)
theorem at692 : ∀ y, some row692 = some y → RowAt (.I (.O (.I (.O (.I (.I (.O (.I (.O Pos.H))))))))) y := row_at rfl Tryz.func692 (by kernel_rfl) (by kernel_rfl)
theorem at693 : ∀ y, some row693 = some y → RowAt (.O (.I (.I (.O (.I (.I (.O (.I (.O Pos.H))))))))) y := row_at rfl Tryz.func693 (by kernel_rfl) (by kernel_rfl)
theorem at694 : ∀ y, some row694 = some y → RowAt (.I (.I (.I (.O (.I (.I (.O (.I (.O Pos.H))))))))) y := row_at rfl Tryz.func694 (by kernel_rfl) (by kernel_rfl)
theorem at695 : ∀ y, some row695 = some y → RowAt (.O (.O (.O (.I (.I (.I (.O (.I (.O Pos.H))))))))) y := row_at rfl Tryz.func695 (by kernel_rfl) (by kernel_rfl)
theorem at696 : ∀ y, some row696 = some y → RowAt (.I (.O (.O (.I (.I (.I (.O (.I (.O Pos.H))))))))) y := row_at rfl Tryz.func696 (by kernel_rfl) (by kernel_rfl)
theorem at697 : ∀ y, some row697 = some y → RowAt (.O (.I (.O (.I (.I (.I (.O (.I (.O Pos.H))))))))) y := row_at rfl Tryz.func697 (by kernel_rfl) (by kernel_rfl)
theorem at698 : ∀ y, some row698 = some y → RowAt (.I (.I (.O (.I (.I (.I (.O (.I (.O Pos.H))))))))) y := row_at rfl Tryz.func698 (by kernel_rfl) (by kernel_rfl)
theorem at699 : ∀ y, some row699 = some y → RowAt (.O (.O (.I (.I (.I (.I (.O (.I (.O Pos.H))))))))) y := row_at rfl Tryz.func699 (by kernel_rfl) (by kernel_rfl)
theorem at700 : ∀ y, some row700 = some y → RowAt (.I (.O (.I (.I (.I (.I (.O (.I (.O Pos.H))))))))) y := row_at rfl Tryz.func700 (by kernel_rfl) (by kernel_rfl)
theorem at701 : ∀ y, some row701 = some y → RowAt (.O (.I (.I (.I (.I (.I (.O (.I (.O Pos.H))))))))) y := row_at rfl Tryz.func701 (by kernel_rfl) (by kernel_rfl)
theorem at702 : ∀ y, some row702 = some y → RowAt (.I (.I (.I (.I (.I (.I (.O (.I (.O Pos.H))))))))) y := row_at rfl Tryz.func702 (by kernel_rfl) (by kernel_rfl)
theorem at703 : ∀ y, some row703 = some y → RowAt (.O (.O (.O (.O (.O (.O (.I (.I (.O Pos.H))))))))) y := row_at rfl Tryz.func703 (by kernel_rfl) (by kernel_rfl)
theorem at704 : ∀ y, some row704 = some y → RowAt (.I (.O (.O (.O (.O (.O (.I (.I (.O Pos.H))))))))) y := row_at rfl Tryz.func704 (by kernel_rfl) (by kernel_rfl)
theorem at705 : ∀ y, some row705 = some y → RowAt (.O (.I (.O (.O (.O (.O (.I (.I (.O Pos.H))))))))) y := row_at rfl Tryz.func705 (by kernel_rfl) (by kernel_rfl)
theorem at706 : ∀ y, some row706 = some y → RowAt (.I (.I (.O (.O (.O (.O (.I (.I (.O Pos.H))))))))) y := row_at rfl Tryz.func706 (by kernel_rfl) (by kernel_rfl)
theorem at707 : ∀ y, some row707 = some y → RowAt (.O (.O (.I (.O (.O (.O (.I (.I (.O Pos.H))))))))) y := row_at rfl Tryz.func707 (by kernel_rfl) (by kernel_rfl)
theorem at708 : ∀ y, some row708 = some y → RowAt (.I (.O (.I (.O (.O (.O (.I (.I (.O Pos.H))))))))) y := row_at rfl Tryz.func708 (by kernel_rfl) (by kernel_rfl)
theorem at709 : ∀ y, some row709 = some y → RowAt (.O (.I (.I (.O (.O (.O (.I (.I (.O Pos.H))))))))) y := row_at rfl Tryz.func709 (by kernel_rfl) (by kernel_rfl)
theorem at710 : ∀ y, some row710 = some y → RowAt (.I (.I (.I (.O (.O (.O (.I (.I (.O Pos.H))))))))) y := row_at rfl Tryz.func710 (by kernel_rfl) (by kernel_rfl)
theorem at711 : ∀ y, some row711 = some y → RowAt (.O (.O (.O (.I (.O (.O (.I (.I (.O Pos.H))))))))) y := row_at rfl Tryz.func711 (by kernel_rfl) (by kernel_rfl)
theorem at712 : ∀ y, some row712 = some y → RowAt (.I (.O (.O (.I (.O (.O (.I (.I (.O Pos.H))))))))) y := row_at rfl Tryz.func712 (by kernel_rfl) (by kernel_rfl)
theorem at713 : ∀ y, some row713 = some y → RowAt (.O (.I (.O (.I (.O (.O (.I (.I (.O Pos.H))))))))) y := row_at rfl Tryz.func713 (by kernel_rfl) (by kernel_rfl)
theorem at714 : ∀ y, some row714 = some y → RowAt (.I (.I (.O (.I (.O (.O (.I (.I (.O Pos.H))))))))) y := row_at rfl Tryz.func714 (by kernel_rfl) (by kernel_rfl)
theorem at715 : ∀ y, some row715 = some y → RowAt (.O (.O (.I (.I (.O (.O (.I (.I (.O Pos.H))))))))) y := row_at rfl Tryz.func715 (by kernel_rfl) (by kernel_rfl)
theorem at716 : ∀ y, some row716 = some y → RowAt (.I (.O (.I (.I (.O (.O (.I (.I (.O Pos.H))))))))) y := row_at rfl Tryz.func716 (by kernel_rfl) (by kernel_rfl)
theorem at717 : ∀ y, some row717 = some y → RowAt (.O (.I (.I (.I (.O (.O (.I (.I (.O Pos.H))))))))) y := row_at rfl Tryz.func717 (by kernel_rfl) (by kernel_rfl)
theorem at718 : ∀ y, some row718 = some y → RowAt (.I (.I (.I (.I (.O (.O (.I (.I (.O Pos.H))))))))) y := row_at rfl Tryz.func718 (by kernel_rfl) (by kernel_rfl)
theorem at719 : ∀ y, some row719 = some y → RowAt (.O (.O (.O (.O (.I (.O (.I (.I (.O Pos.H))))))))) y := row_at rfl Tryz.func719 (by kernel_rfl) (by kernel_rfl)
theorem at720 : ∀ y, some row720 = some y → RowAt (.I (.O (.O (.O (.I (.O (.I (.I (.O Pos.H))))))))) y := row_at rfl Tryz.func720 (by kernel_rfl) (by kernel_rfl)
theorem at721 : ∀ y, some row721 = some y → RowAt (.O (.I (.O (.O (.I (.O (.I (.I (.O Pos.H))))))))) y := row_at rfl Tryz.func721 (by kernel_rfl) (by kernel_rfl)
theorem at722 : ∀ y, some row722 = some y → RowAt (.I (.I (.O (.O (.I (.O (.I (.I (.O Pos.H))))))))) y := row_at rfl Tryz.func722 (by kernel_rfl) (by kernel_rfl)
theorem at723 : ∀ y, some row723 = some y → RowAt (.O (.O (.I (.O (.I (.O (.I (.I (.O Pos.H))))))))) y := row_at rfl Tryz.func723 (by kernel_rfl) (by kernel_rfl)
theorem at724 : ∀ y, some row724 = some y → RowAt (.I (.O (.I (.O (.I (.O (.I (.I (.O Pos.H))))))))) y := row_at rfl Tryz.func724 (by kernel_rfl) (by kernel_rfl)
theorem at725 : ∀ y, some row725 = some y → RowAt (.O (.I (.I (.O (.I (.O (.I (.I (.O Pos.H))))))))) y := row_at rfl Tryz.func725 (by kernel_rfl) (by kernel_rfl)
theorem at726 : ∀ y, some row726 = some y → RowAt (.I (.I (.I (.O (.I (.O (.I (.I (.O Pos.H))))))))) y := row_at rfl Tryz.func726 (by kernel_rfl) (by kernel_rfl)
theorem at727 : ∀ y, some row727 = some y → RowAt (.O (.O (.O (.I (.I (.O (.I (.I (.O Pos.H))))))))) y := row_at rfl Tryz.func727 (by kernel_rfl) (by kernel_rfl)
theorem at728 : ∀ y, some row728 = some y → RowAt (.I (.O (.O (.I (.I (.O (.I (.I (.O Pos.H))))))))) y := row_at rfl Tryz.func728 (by kernel_rfl) (by kernel_rfl)
theorem at729 : ∀ y, some row729 = some y → RowAt (.O (.I (.O (.I (.I (.O (.I (.I (.O Pos.H))))))))) y := row_at rfl Tryz.func729 (by kernel_rfl) (by kernel_rfl)
theorem at730 : ∀ y, some row730 = some y → RowAt (.I (.I (.O (.I (.I (.O (.I (.I (.O Pos.H))))))))) y := row_at rfl Tryz.func730 (by kernel_rfl) (by kernel_rfl)
theorem at731 : ∀ y, some row731 = some y → RowAt (.O (.O (.I (.I (.I (.O (.I (.I (.O Pos.H))))))))) y := row_at rfl Tryz.func731 (by kernel_rfl) (by kernel_rfl)
theorem at732 : ∀ y, some row732 = some y → RowAt (.I (.O (.I (.I (.I (.O (.I (.I (.O Pos.H))))))))) y := row_at rfl Tryz.func732 (by kernel_rfl) (by kernel_rfl)
theorem at733 : ∀ y, some row733 = some y → RowAt (.O (.I (.I (.I (.I (.O (.I (.I (.O Pos.H))))))))) y := row_at rfl Tryz.func733 (by kernel_rfl) (by kernel_rfl)
theorem at734 : ∀ y, some row734 = some y → RowAt (.I (.I (.I (.I (.I (.O (.I (.I (.O Pos.H))))))))) y := row_at rfl Tryz.func734 (by kernel_rfl) (by kernel_rfl)
theorem at735 : ∀ y, some row735 = some y → RowAt (.O (.O (.O (.O (.O (.I (.I (.I (.O Pos.H))))))))) y := row_at rfl Tryz.func735 (by kernel_rfl) (by kernel_rfl)
theorem at736 : ∀ y, some row736 = some y → RowAt (.I (.O (.O (.O (.O (.I (.I (.I (.O Pos.H))))))))) y := row_at rfl Tryz.func736 (by kernel_rfl) (by kernel_rfl)
theorem at737 : ∀ y, some row737 = some y → RowAt (.O (.I (.O (.O (.O (.I (.I (.I (.O Pos.H))))))))) y := row_at rfl Tryz.func737 (by kernel_rfl) (by kernel_rfl)
theorem at738 : ∀ y, some row738 = some y → RowAt (.I (.I (.O (.O (.O (.I (.I (.I (.O Pos.H))))))))) y := row_at rfl Tryz.func738 (by kernel_rfl) (by kernel_rfl)
theorem at739 : ∀ y, some row739 = some y → RowAt (.O (.O (.I (.O (.O (.I (.I (.I (.O Pos.H))))))))) y := row_at rfl Tryz.func739 (by kernel_rfl) (by kernel_rfl)
theorem at740 : ∀ y, some row740 = some y → RowAt (.I (.O (.I (.O (.O (.I (.I (.I (.O Pos.H))))))))) y := row_at rfl Tryz.func740 (by kernel_rfl) (by kernel_rfl)
theorem at741 : ∀ y, some row741 = some y → RowAt (.O (.I (.I (.O (.O (.I (.I (.I (.O Pos.H))))))))) y := row_at rfl Tryz.func741 (by kernel_rfl) (by kernel_rfl)
theorem at742 : ∀ y, some row742 = some y → RowAt (.I (.I (.I (.O (.O (.I (.I (.I (.O Pos.H))))))))) y := row_at rfl Tryz.func742 (by kernel_rfl) (by kernel_rfl)
theorem at743 : ∀ y, some row743 = some y → RowAt (.O (.O (.O (.I (.O (.I (.I (.I (.O Pos.H))))))))) y := row_at rfl Tryz.func743 (by kernel_rfl) (by kernel_rfl)
theorem at744 : ∀ y, some row744 = some y → RowAt (.I (.O (.O (.I (.O (.I (.I (.I (.O Pos.H))))))))) y := row_at rfl Tryz.func744 (by kernel_rfl) (by kernel_rfl)
theorem at745 : ∀ y, some row745 = some y → RowAt (.O (.I (.O (.I (.O (.I (.I (.I (.O Pos.H))))))))) y := row_at rfl Tryz.func745 (by kernel_rfl) (by kernel_rfl)
theorem at746 : ∀ y, some row746 = some y → RowAt (.I (.I (.O (.I (.O (.I (.I (.I (.O Pos.H))))))))) y := row_at rfl Tryz.func746 (by kernel_rfl) (by kernel_rfl)
theorem at747 : ∀ y, some row747 = some y → RowAt (.O (.O (.I (.I (.O (.I (.I (.I (.O Pos.H))))))))) y := row_at rfl Tryz.func747 (by kernel_rfl) (by kernel_rfl)
theorem at748 : ∀ y, some row748 = some y → RowAt (.I (.O (.I (.I (.O (.I (.I (.I (.O Pos.H))))))))) y := row_at rfl Tryz.func748 (by kernel_rfl) (by kernel_rfl)
theorem at749 : ∀ y, some row749 = some y → RowAt (.O (.I (.I (.I (.O (.I (.I (.I (.O Pos.H))))))))) y := row_at rfl Tryz.func749 (by kernel_rfl) (by kernel_rfl)
theorem at750 : ∀ y, some row750 = some y → RowAt (.I (.I (.I (.I (.O (.I (.I (.I (.O Pos.H))))))))) y := row_at rfl Tryz.func750 (by kernel_rfl) (by kernel_rfl)
theorem at751 : ∀ y, some row751 = some y → RowAt (.O (.O (.O (.O (.I (.I (.I (.I (.O Pos.H))))))))) y := row_at rfl Tryz.func751 (by kernel_rfl) (by kernel_rfl)
theorem at752 : ∀ y, some row752 = some y → RowAt (.I (.O (.O (.O (.I (.I (.I (.I (.O Pos.H))))))))) y := row_at rfl Tryz.func752 (by kernel_rfl) (by kernel_rfl)
theorem at753 : ∀ y, some row753 = some y → RowAt (.O (.I (.O (.O (.I (.I (.I (.I (.O Pos.H))))))))) y := row_at rfl Tryz.func753 (by kernel_rfl) (by kernel_rfl)
theorem at754 : ∀ y, some row754 = some y → RowAt (.I (.I (.O (.O (.I (.I (.I (.I (.O Pos.H))))))))) y := row_at rfl Tryz.func754 (by kernel_rfl) (by kernel_rfl)
theorem at755 : ∀ y, some row755 = some y → RowAt (.O (.O (.I (.O (.I (.I (.I (.I (.O Pos.H))))))))) y := row_at rfl Tryz.func755 (by kernel_rfl) (by kernel_rfl)
theorem at756 : ∀ y, some row756 = some y → RowAt (.I (.O (.I (.O (.I (.I (.I (.I (.O Pos.H))))))))) y := row_at rfl Tryz.func756 (by kernel_rfl) (by kernel_rfl)
theorem at757 : ∀ y, some row757 = some y → RowAt (.O (.I (.I (.O (.I (.I (.I (.I (.O Pos.H))))))))) y := row_at rfl Tryz.func757 (by kernel_rfl) (by kernel_rfl)
theorem at758 : ∀ y, some row758 = some y → RowAt (.I (.I (.I (.O (.I (.I (.I (.I (.O Pos.H))))))))) y := row_at rfl Tryz.func758 (by kernel_rfl) (by kernel_rfl)
theorem at759 : ∀ y, some row759 = some y → RowAt (.O (.O (.O (.I (.I (.I (.I (.I (.O Pos.H))))))))) y := row_at rfl Tryz.func759 (by kernel_rfl) (by kernel_rfl)
theorem at760 : ∀ y, some row760 = some y → RowAt (.I (.O (.O (.I (.I (.I (.I (.I (.O Pos.H))))))))) y := row_at rfl Tryz.func760 (by kernel_rfl) (by kernel_rfl)
theorem at761 : ∀ y, some row761 = some y → RowAt (.O (.I (.O (.I (.I (.I (.I (.I (.O Pos.H))))))))) y := row_at rfl Tryz.func761 (by kernel_rfl) (by kernel_rfl)
theorem at762 : ∀ y, some row762 = some y → RowAt (.I (.I (.O (.I (.I (.I (.I (.I (.O Pos.H))))))))) y := row_at rfl Tryz.func762 (by kernel_rfl) (by kernel_rfl)
theorem at763 : ∀ y, some row763 = some y → RowAt (.O (.O (.I (.I (.I (.I (.I (.I (.O Pos.H))))))))) y := row_at rfl Tryz.func763 (by kernel_rfl) (by kernel_rfl)
theorem at764 : ∀ y, some row764 = some y → RowAt (.I (.O (.I (.I (.I (.I (.I (.I (.O Pos.H))))))))) y := row_at rfl Tryz.func764 (by kernel_rfl) (by kernel_rfl)
theorem at765 : ∀ y, some row765 = some y → RowAt (.O (.I (.I (.I (.I (.I (.I (.I (.O Pos.H))))))))) y := row_at rfl Tryz.func765 (by kernel_rfl) (by kernel_rfl)
theorem at766 : ∀ y, some row766 = some y → RowAt (.I (.I (.I (.I (.I (.I (.I (.I (.O Pos.H))))))))) y := row_at rfl Tryz.func766 (by kernel_rfl) (by kernel_rfl)
theorem at767 : ∀ y, some row767 = some y → RowAt (.O (.O (.O (.O (.O (.O (.O (.O (.I Pos.H))))))))) y := row_at rfl Tryz.func767 (by kernel_rfl) (by kernel_rfl)
theorem at768 : ∀ y, some row768 = some y → RowAt (.I (.O (.O (.O (.O (.O (.O (.O (.I Pos.H))))))))) y := row_at rfl Tryz.func768 (by kernel_rfl) (by kernel_rfl)
noncomputable def tabR : T FRow := (.node (.node (.node (.node (.node (.node (.node (.node (.node (.node .leaf (some row511) .leaf) (some row255) (.node .leaf (some row767) .leaf)) (some row127) (.node (.node .leaf (some row639) .leaf) (some row383) .leaf)) (some row63) (.node (.node (.node .leaf (some row575) .leaf) (some row319) .leaf) (some row191) (.node (.node .leaf (some row703) .leaf) (some row447) .leaf))) (some row31) (.node (.node (.node (.node .leaf (some row543) .leaf) (some row287) .leaf) (some row159) (.node (.node .leaf (some row671) .leaf) (some row415) .leaf)) (some row95) (.node (.node (.node .leaf (some row607) .leaf) (some row351) .leaf) (some row223) (.node (.node .leaf (some row735) .leaf) (some row479) .leaf)))) (some row15) (.node (.node (.node (.node (.node .leaf (some row527) .leaf) (some row271) .leaf) (some row143) (.node (.node .leaf (some row655) .leaf) (some row399) .leaf)) (some row79) (.node (.node (.node .leaf (some row591) .leaf) (some row335) .leaf) (some row207) (.node (.node .leaf (some row719) .leaf) (some row463) .leaf))) (some row47) (.node (.node (.node (.node .leaf (some row559) .leaf) (some row303) .leaf) (some row175) (.node (.node .leaf (some row687) .leaf) (some row431) .leaf)) (some row111) (.node (.node (.node .leaf (some row623) .leaf) (some row367) .leaf) (some row239) (.node (.node .leaf (some row751) .leaf) (some row495) .leaf))))) (some row7) (.node (.node (.node (.node (.node (.node .leaf (some row519) .leaf) (some row263) .leaf) (some row135) (.node (.node .leaf (some row647) .leaf) (some row391) .leaf)) (some row71) (.node (.node (.node .leaf (some row583) .leaf) (some row327) .leaf) (some row199) (.node (.node .leaf (some row711) .leaf) (some row455) .leaf))) (some row39) (.node (.node (.node (.node .leaf (some row551) .leaf) (some row295) .leaf) (some row167) (.node (.node .leaf (some row679) .leaf) (some row423) .leaf)) (some row103) (.node (.node (.node .leaf (some row615) .leaf) (some row359) .leaf) (some row231) (.node (.node .leaf (some row743) .leaf) (some row487) .leaf)))) (some row23) (.node (.node (.node (.node (.node .leaf (some row535) .leaf) (some row279) .leaf) (some row151) (.node (.node .leaf (some row663) .leaf) (some row407) .leaf)) (some row87) (.node (.node (.node .leaf (some row599) .leaf) (some row343) .leaf) (some row215) (.node (.node .leaf (some row727) .leaf) (some row471) .leaf))) (some row55) (.node (.node (.node (.node .leaf (some row567) .leaf) (some row311) .leaf) (some row183) (.node (.node .leaf (some row695) .leaf) (some row439) .leaf)) (some row119) (.node (.node (.node .leaf (some row631) .leaf) (some row375) .leaf) (some row247) (.node (.node .leaf (some row759) .leaf) (some row503) .leaf)))))) (some row3) (.node (.node (.node (.node (.node (.node (.node .leaf (some row515) .leaf) (some row259) .leaf) (some row131) (.node (.node .leaf (some row643) .leaf) (some row387) .leaf)) (some row67) (.node (.node (.node .leaf (some row579) .leaf) (some row323) .leaf) (some row195) (.node (.node .leaf (some row707) .leaf) (some row451) .leaf))) (some row35) (.node (.node (.node (.node .leaf (some row547) .leaf) (some row291) .leaf) (some row163) (.node (.node .leaf (some row675) .leaf) (some row419) .leaf)) (some row99) (.node (.node (.node .leaf (some row611) .leaf) (some row355) .leaf) (some row227) (.node (.node .leaf (some row739) .leaf) (some row483) .leaf)))) (some row19) (.node (.node (.node (.node (.node .leaf (some row531) .leaf) (some row275) .leaf) (some row147) (.node (.node .leaf (some row659) .leaf) (some row403) .leaf)) (some row83) (.node (.node (.node .leaf (some row595) .leaf) (some row339) .leaf) (some row211) (.node (.node .leaf (some row723) .leaf) (some row467) .leaf))) (some row51) (.node (.node (.node (.node .leaf (some row563) .leaf) (some row307) .leaf) (some row179) (.node (.node .leaf (some row691) .leaf) (some row435) .leaf)) (some row115) (.node (.node (.node .leaf (some row627) .leaf) (some row371) .leaf) (some row243) (.node (.node .leaf (some row755) .leaf) (some row499) .leaf))))) (some row11) (.node (.node (.node (.node (.node (.node .leaf (some row523) .leaf) (some row267) .leaf) (some row139) (.node (.node .leaf (some row651) .leaf) (some row395) .leaf)) (some row75) (.node (.node (.node .leaf (some row587) .leaf) (some row331) .leaf) (some row203) (.node (.node .leaf (some row715) .leaf) (some row459) .leaf))) (some row43) (.node (.node (.node (.node .leaf (some row555) .leaf) (some row299) .leaf) (some row171) (.node (.node .leaf (some row683) .leaf) (some row427) .leaf)) (some row107) (.node (.node (.node .leaf (some row619) .leaf) (some row363) .leaf) (some row235) (.node (.node .leaf (some row747) .leaf) (some row491) .leaf)))) (some row27) (.node (.node (.node (.node (.node .leaf (some row539) .leaf) (some row283) .leaf) (some row155) (.node (.node .leaf (some row667) .leaf) (some row411) .leaf)) (some row91) (.node (.node (.node .leaf (some row603) .leaf) (some row347) .leaf) (some row219) (.node (.node .leaf (some row731) .leaf) (some row475) .leaf))) (some row59) (.node (.node (.node (.node .leaf (some row571) .leaf) (some row315) .leaf) (some row187) (.node (.node .leaf (some row699) .leaf) (some row443) .leaf)) (some row123) (.node (.node (.node .leaf (some row635) .leaf) (some row379) .leaf) (some row251) (.node (.node .leaf (some row763) .leaf) (some row507) .leaf))))))) (some row1) (.node (.node (.node (.node (.node (.node (.node (.node .leaf (some row513) .leaf) (some row257) .leaf) (some row129) (.node (.node .leaf (some row641) .leaf) (some row385) .leaf)) (some row65) (.node (.node (.node .leaf (some row577) .leaf) (some row321) .leaf) (some row193) (.node (.node .leaf (some row705) .leaf) (some row449) .leaf))) (some row33) (.node (.node (.node (.node .leaf (some row545) .leaf) (some row289) .leaf) (some row161) (.node (.node .leaf (some row673) .leaf) (some row417) .leaf)) (some row97) (.node (.node (.node .leaf (some row609) .leaf) (some row353) .leaf) (some row225) (.node (.node .leaf (some row737) .leaf) (some row481) .leaf)))) (some row17) (.node (.node (.node (.node (.node .leaf (some row529) .leaf) (some row273) .leaf) (some row145) (.node (.node .leaf (some row657) .leaf) (some row401) .leaf)) (some row81) (.node (.node (.node .leaf (some row593) .leaf) (some row337) .leaf) (some row209) (.node (.node .leaf (some row721) .leaf) (some row465) .leaf))) (some row49) (.node (.node (.node (.node .leaf (some row561) .leaf) (some row305) .leaf) (some row177) (.node (.node .leaf (some row689) .leaf) (some row433) .leaf)) (some row113) (.node (.node (.node .leaf (some row625) .leaf) (some row369) .leaf) (some row241) (.node (.node .leaf (some row753) .leaf) (some row497) .leaf))))) (some row9) (.node (.node (.node (.node (.node (.node .leaf (some row521) .leaf) (some row265) .leaf) (some row137) (.node (.node .leaf (some row649) .leaf) (some row393) .leaf)) (some row73) (.node (.node (.node .leaf (some row585) .leaf) (some row329) .leaf) (some row201) (.node (.node .leaf (some row713) .leaf) (some row457) .leaf))) (some row41) (.node (.node (.node (.node .leaf (some row553) .leaf) (some row297) .leaf) (some row169) (.node (.node .leaf (some row681) .leaf) (some row425) .leaf)) (some row105) (.node (.node (.node .leaf (some row617) .leaf) (some row361) .leaf) (some row233) (.node (.node .leaf (some row745) .leaf) (some row489) .leaf)))) (some row25) (.node (.node (.node (.node (.node .leaf (some row537) .leaf) (some row281) .leaf) (some row153) (.node (.node .leaf (some row665) .leaf) (some row409) .leaf)) (some row89) (.node (.node (.node .leaf (some row601) .leaf) (some row345) .leaf) (some row217) (.node (.node .leaf (some row729) .leaf) (some row473) .leaf))) (some row57) (.node (.node (.node (.node .leaf (some row569) .leaf) (some row313) .leaf) (some row185) (.node (.node .leaf (some row697) .leaf) (some row441) .leaf)) (some row121) (.node (.node (.node .leaf (some row633) .leaf) (some row377) .leaf) (some row249) (.node (.node .leaf (some row761) .leaf) (some row505) .leaf)))))) (some row5) (.node (.node (.node (.node (.node (.node (.node .leaf (some row517) .leaf) (some row261) .leaf) (some row133) (.node (.node .leaf (some row645) .leaf) (some row389) .leaf)) (some row69) (.node (.node (.node .leaf (some row581) .leaf) (some row325) .leaf) (some row197) (.node (.node .leaf (some row709) .leaf) (some row453) .leaf))) (some row37) (.node (.node (.node (.node .leaf (some row549) .leaf) (some row293) .leaf) (some row165) (.node (.node .leaf (some row677) .leaf) (some row421) .leaf)) (some row101) (.node (.node (.node .leaf (some row613) .leaf) (some row357) .leaf) (some row229) (.node (.node .leaf (some row741) .leaf) (some row485) .leaf)))) (some row21) (.node (.node (.node (.node (.node .leaf (some row533) .leaf) (some row277) .leaf) (some row149) (.node (.node .leaf (some row661) .leaf) (some row405) .leaf)) (some row85) (.node (.node (.node .leaf (some row597) .leaf) (some row341) .leaf) (some row213) (.node (.node .leaf (some row725) .leaf) (some row469) .leaf))) (some row53) (.node (.node (.node (.node .leaf (some row565) .leaf) (some row309) .leaf) (some row181) (.node (.node .leaf (some row693) .leaf) (some row437) .leaf)) (some row117) (.node (.node (.node .leaf (some row629) .leaf) (some row373) .leaf) (some row245) (.node (.node .leaf (some row757) .leaf) (some row501) .leaf))))) (some row13) (.node (.node (.node (.node (.node (.node .leaf (some row525) .leaf) (some row269) .leaf) (some row141) (.node (.node .leaf (some row653) .leaf) (some row397) .leaf)) (some row77) (.node (.node (.node .leaf (some row589) .leaf) (some row333) .leaf) (some row205) (.node (.node .leaf (some row717) .leaf) (some row461) .leaf))) (some row45) (.node (.node (.node (.node .leaf (some row557) .leaf) (some row301) .leaf) (some row173) (.node (.node .leaf (some row685) .leaf) (some row429) .leaf)) (some row109) (.node (.node (.node .leaf (some row621) .leaf) (some row365) .leaf) (some row237) (.node (.node .leaf (some row749) .leaf) (some row493) .leaf)))) (some row29) (.node (.node (.node (.node (.node .leaf (some row541) .leaf) (some row285) .leaf) (some row157) (.node (.node .leaf (some row669) .leaf) (some row413) .leaf)) (some row93) (.node (.node (.node .leaf (some row605) .leaf) (some row349) .leaf) (some row221) (.node (.node .leaf (some row733) .leaf) (some row477) .leaf))) (some row61) (.node (.node (.node (.node .leaf (some row573) .leaf) (some row317) .leaf) (some row189) (.node (.node .leaf (some row701) .leaf) (some row445) .leaf)) (some row125) (.node (.node (.node .leaf (some row637) .leaf) (some row381) .leaf) (some row253) (.node (.node .leaf (some row765) .leaf) (some row509) .leaf)))))))) (some row0) (.node (.node (.node (.node (.node (.node (.node (.node (.node .leaf (some row512) .leaf) (some row256) (.node .leaf (some row768) .leaf)) (some row128) (.node (.node .leaf (some row640) .leaf) (some row384) .leaf)) (some row64) (.node (.node (.node .leaf (some row576) .leaf) (some row320) .leaf) (some row192) (.node (.node .leaf (some row704) .leaf) (some row448) .leaf))) (some row32) (.node (.node (.node (.node .leaf (some row544) .leaf) (some row288) .leaf) (some row160) (.node (.node .leaf (some row672) .leaf) (some row416) .leaf)) (some row96) (.node (.node (.node .leaf (some row608) .leaf) (some row352) .leaf) (some row224) (.node (.node .leaf (some row736) .leaf) (some row480) .leaf)))) (some row16) (.node (.node (.node (.node (.node .leaf (some row528) .leaf) (some row272) .leaf) (some row144) (.node (.node .leaf (some row656) .leaf) (some row400) .leaf)) (some row80) (.node (.node (.node .leaf (some row592) .leaf) (some row336) .leaf) (some row208) (.node (.node .leaf (some row720) .leaf) (some row464) .leaf))) (some row48) (.node (.node (.node (.node .leaf (some row560) .leaf) (some row304) .leaf) (some row176) (.node (.node .leaf (some row688) .leaf) (some row432) .leaf)) (some row112) (.node (.node (.node .leaf (some row624) .leaf) (some row368) .leaf) (some row240) (.node (.node .leaf (some row752) .leaf) (some row496) .leaf))))) (some row8) (.node (.node (.node (.node (.node (.node .leaf (some row520) .leaf) (some row264) .leaf) (some row136) (.node (.node .leaf (some row648) .leaf) (some row392) .leaf)) (some row72) (.node (.node (.node .leaf (some row584) .leaf) (some row328) .leaf) (some row200) (.node (.node .leaf (some row712) .leaf) (some row456) .leaf))) (some row40) (.node (.node (.node (.node .leaf (some row552) .leaf) (some row296) .leaf) (some row168) (.node (.node .leaf (some row680) .leaf) (some row424) .leaf)) (some row104) (.node (.node (.node .leaf (some row616) .leaf) (some row360) .leaf) (some row232) (.node (.node .leaf (some row744) .leaf) (some row488) .leaf)))) (some row24) (.node (.node (.node (.node (.node .leaf (some row536) .leaf) (some row280) .leaf) (some row152) (.node (.node .leaf (some row664) .leaf) (some row408) .leaf)) (some row88) (.node (.node (.node .leaf (some row600) .leaf) (some row344) .leaf) (some row216) (.node (.node .leaf (some row728) .leaf) (some row472) .leaf))) (some row56) (.node (.node (.node (.node .leaf (some row568) .leaf) (some row312) .leaf) (some row184) (.node (.node .leaf (some row696) .leaf) (some row440) .leaf)) (some row120) (.node (.node (.node .leaf (some row632) .leaf) (some row376) .leaf) (some row248) (.node (.node .leaf (some row760) .leaf) (some row504) .leaf)))))) (some row4) (.node (.node (.node (.node (.node (.node (.node .leaf (some row516) .leaf) (some row260) .leaf) (some row132) (.node (.node .leaf (some row644) .leaf) (some row388) .leaf)) (some row68) (.node (.node (.node .leaf (some row580) .leaf) (some row324) .leaf) (some row196) (.node (.node .leaf (some row708) .leaf) (some row452) .leaf))) (some row36) (.node (.node (.node (.node .leaf (some row548) .leaf) (some row292) .leaf) (some row164) (.node (.node .leaf (some row676) .leaf) (some row420) .leaf)) (some row100) (.node (.node (.node .leaf (some row612) .leaf) (some row356) .leaf) (some row228) (.node (.node .leaf (some row740) .leaf) (some row484) .leaf)))) (some row20) (.node (.node (.node (.node (.node .leaf (some row532) .leaf) (some row276) .leaf) (some row148) (.node (.node .leaf (some row660) .leaf) (some row404) .leaf)) (some row84) (.node (.node (.node .leaf (some row596) .leaf) (some row340) .leaf) (some row212) (.node (.node .leaf (some row724) .leaf) (some row468) .leaf))) (some row52) (.node (.node (.node (.node .leaf (some row564) .leaf) (some row308) .leaf) (some row180) (.node (.node .leaf (some row692) .leaf) (some row436) .leaf)) (some row116) (.node (.node (.node .leaf (some row628) .leaf) (some row372) .leaf) (some row244) (.node (.node .leaf (some row756) .leaf) (some row500) .leaf))))) (some row12) (.node (.node (.node (.node (.node (.node .leaf (some row524) .leaf) (some row268) .leaf) (some row140) (.node (.node .leaf (some row652) .leaf) (some row396) .leaf)) (some row76) (.node (.node (.node .leaf (some row588) .leaf) (some row332) .leaf) (some row204) (.node (.node .leaf (some row716) .leaf) (some row460) .leaf))) (some row44) (.node (.node (.node (.node .leaf (some row556) .leaf) (some row300) .leaf) (some row172) (.node (.node .leaf (some row684) .leaf) (some row428) .leaf)) (some row108) (.node (.node (.node .leaf (some row620) .leaf) (some row364) .leaf) (some row236) (.node (.node .leaf (some row748) .leaf) (some row492) .leaf)))) (some row28) (.node (.node (.node (.node (.node .leaf (some row540) .leaf) (some row284) .leaf) (some row156) (.node (.node .leaf (some row668) .leaf) (some row412) .leaf)) (some row92) (.node (.node (.node .leaf (some row604) .leaf) (some row348) .leaf) (some row220) (.node (.node .leaf (some row732) .leaf) (some row476) .leaf))) (some row60) (.node (.node (.node (.node .leaf (some row572) .leaf) (some row316) .leaf) (some row188) (.node (.node .leaf (some row700) .leaf) (some row444) .leaf)) (some row124) (.node (.node (.node .leaf (some row636) .leaf) (some row380) .leaf) (some row252) (.node (.node .leaf (some row764) .leaf) (some row508) .leaf))))))) (some row2) (.node (.node (.node (.node (.node (.node (.node (.node .leaf (some row514) .leaf) (some row258) .leaf) (some row130) (.node (.node .leaf (some row642) .leaf) (some row386) .leaf)) (some row66) (.node (.node (.node .leaf (some row578) .leaf) (some row322) .leaf) (some row194) (.node (.node .leaf (some row706) .leaf) (some row450) .leaf))) (some row34) (.node (.node (.node (.node .leaf (some row546) .leaf) (some row290) .leaf) (some row162) (.node (.node .leaf (some row674) .leaf) (some row418) .leaf)) (some row98) (.node (.node (.node .leaf (some row610) .leaf) (some row354) .leaf) (some row226) (.node (.node .leaf (some row738) .leaf) (some row482) .leaf)))) (some row18) (.node (.node (.node (.node (.node .leaf (some row530) .leaf) (some row274) .leaf) (some row146) (.node (.node .leaf (some row658) .leaf) (some row402) .leaf)) (some row82) (.node (.node (.node .leaf (some row594) .leaf) (some row338) .leaf) (some row210) (.node (.node .leaf (some row722) .leaf) (some row466) .leaf))) (some row50) (.node (.node (.node (.node .leaf (some row562) .leaf) (some row306) .leaf) (some row178) (.node (.node .leaf (some row690) .leaf) (some row434) .leaf)) (some row114) (.node (.node (.node .leaf (some row626) .leaf) (some row370) .leaf) (some row242) (.node (.node .leaf (some row754) .leaf) (some row498) .leaf))))) (some row10) (.node (.node (.node (.node (.node (.node .leaf (some row522) .leaf) (some row266) .leaf) (some row138) (.node (.node .leaf (some row650) .leaf) (some row394) .leaf)) (some row74) (.node (.node (.node .leaf (some row586) .leaf) (some row330) .leaf) (some row202) (.node (.node .leaf (some row714) .leaf) (some row458) .leaf))) (some row42) (.node (.node (.node (.node .leaf (some row554) .leaf) (some row298) .leaf) (some row170) (.node (.node .leaf (some row682) .leaf) (some row426) .leaf)) (some row106) (.node (.node (.node .leaf (some row618) .leaf) (some row362) .leaf) (some row234) (.node (.node .leaf (some row746) .leaf) (some row490) .leaf)))) (some row26) (.node (.node (.node (.node (.node .leaf (some row538) .leaf) (some row282) .leaf) (some row154) (.node (.node .leaf (some row666) .leaf) (some row410) .leaf)) (some row90) (.node (.node (.node .leaf (some row602) .leaf) (some row346) .leaf) (some row218) (.node (.node .leaf (some row730) .leaf) (some row474) .leaf))) (some row58) (.node (.node (.node (.node .leaf (some row570) .leaf) (some row314) .leaf) (some row186) (.node (.node .leaf (some row698) .leaf) (some row442) .leaf)) (some row122) (.node (.node (.node .leaf (some row634) .leaf) (some row378) .leaf) (some row250) (.node (.node .leaf (some row762) .leaf) (some row506) .leaf)))))) (some row6) (.node (.node (.node (.node (.node (.node (.node .leaf (some row518) .leaf) (some row262) .leaf) (some row134) (.node (.node .leaf (some row646) .leaf) (some row390) .leaf)) (some row70) (.node (.node (.node .leaf (some row582) .leaf) (some row326) .leaf) (some row198) (.node (.node .leaf (some row710) .leaf) (some row454) .leaf))) (some row38) (.node (.node (.node (.node .leaf (some row550) .leaf) (some row294) .leaf) (some row166) (.node (.node .leaf (some row678) .leaf) (some row422) .leaf)) (some row102) (.node (.node (.node .leaf (some row614) .leaf) (some row358) .leaf) (some row230) (.node (.node .leaf (some row742) .leaf) (some row486) .leaf)))) (some row22) (.node (.node (.node (.node (.node .leaf (some row534) .leaf) (some row278) .leaf) (some row150) (.node (.node .leaf (some row662) .leaf) (some row406) .leaf)) (some row86) (.node (.node (.node .leaf (some row598) .leaf) (some row342) .leaf) (some row214) (.node (.node .leaf (some row726) .leaf) (some row470) .leaf))) (some row54) (.node (.node (.node (.node .leaf (some row566) .leaf) (some row310) .leaf) (some row182) (.node (.node .leaf (some row694) .leaf) (some row438) .leaf)) (some row118) (.node (.node (.node .leaf (some row630) .leaf) (some row374) .leaf) (some row246) (.node (.node .leaf (some row758) .leaf) (some row502) .leaf))))) (some row14) (.node (.node (.node (.node (.node (.node .leaf (some row526) .leaf) (some row270) .leaf) (some row142) (.node (.node .leaf (some row654) .leaf) (some row398) .leaf)) (some row78) (.node (.node (.node .leaf (some row590) .leaf) (some row334) .leaf) (some row206) (.node (.node .leaf (some row718) .leaf) (some row462) .leaf))) (some row46) (.node (.node (.node (.node .leaf (some row558) .leaf) (some row302) .leaf) (some row174) (.node (.node .leaf (some row686) .leaf) (some row430) .leaf)) (some row110) (.node (.node (.node .leaf (some row622) .leaf) (some row366) .leaf) (some row238) (.node (.node .leaf (some row750) .leaf) (some row494) .leaf)))) (some row30) (.node (.node (.node (.node (.node .leaf (some row542) .leaf) (some row286) .leaf) (some row158) (.node (.node .leaf (some row670) .leaf) (some row414) .leaf)) (some row94) (.node (.node (.node .leaf (some row606) .leaf) (some row350) .leaf) (some row222) (.node (.node .leaf (some row734) .leaf) (some row478) .leaf))) (some row62) (.node (.node (.node (.node .leaf (some row574) .leaf) (some row318) .leaf) (some row190) (.node (.node .leaf (some row702) .leaf) (some row446) .leaf)) (some row126) (.node (.node (.node .leaf (some row638) .leaf) (some row382) .leaf) (some row254) (.node (.node .leaf (some row766) .leaf) (some row510) .leaf)))))))))
theorem tabR_all : rowsAll tabR RowAt := ⟨at0, ⟨at1, ⟨at3, ⟨at7, ⟨at15, ⟨at31, ⟨at63, ⟨at127, ⟨at255, ⟨at511, trivial, trivial⟩, ⟨at767, trivial, trivial⟩⟩, ⟨at383, ⟨at639, trivial, trivial⟩, trivial⟩⟩, ⟨at191, ⟨at319, ⟨at575, trivial, trivial⟩, trivial⟩, ⟨at447, ⟨at703, trivial, trivial⟩, trivial⟩⟩⟩, ⟨at95, ⟨at159, ⟨at287, ⟨at543, trivial, trivial⟩, trivial⟩, ⟨at415, ⟨at671, trivial, trivial⟩, trivial⟩⟩, ⟨at223, ⟨at351, ⟨at607, trivial, trivial⟩, trivial⟩, ⟨at479, ⟨at735, trivial, trivial⟩, trivial⟩⟩⟩⟩, ⟨at47, ⟨at79, ⟨at143, ⟨at271, ⟨at527, trivial, trivial⟩, trivial⟩, ⟨at399, ⟨at655, trivial, trivial⟩, trivial⟩⟩, ⟨at207, ⟨at335, ⟨at591, trivial, trivial⟩, trivial⟩, ⟨at463, ⟨at719, trivial, trivial⟩, trivial⟩⟩⟩, ⟨at111, ⟨at175, ⟨at303, ⟨at559, trivial, trivial⟩, trivial⟩, ⟨at431, ⟨at687, trivial, trivial⟩, trivial⟩⟩, ⟨at239, ⟨at367, ⟨at623, trivial, trivial⟩, trivial⟩, ⟨at495, ⟨at751, trivial, trivial⟩, trivial⟩⟩⟩⟩⟩, ⟨at23, ⟨at39, ⟨at71, ⟨at135, ⟨at263, ⟨at519, trivial, trivial⟩, trivial⟩, ⟨at391, ⟨at647, trivial, trivial⟩, trivial⟩⟩, ⟨at199, ⟨at327, ⟨at583, trivial, trivial⟩, trivial⟩, ⟨at455, ⟨at711, trivial, trivial⟩, trivial⟩⟩⟩, ⟨at103, ⟨at167, ⟨at295, ⟨at551, trivial, trivial⟩, trivial⟩, ⟨at423, ⟨at679, trivial, trivial⟩, trivial⟩⟩, ⟨at231, ⟨at359, ⟨at615, trivial, trivial⟩, trivial⟩, ⟨at487, ⟨at743, trivial, trivial⟩, trivial⟩⟩⟩⟩, ⟨at55, ⟨at87, ⟨at151, ⟨at279, ⟨at535, trivial, trivial⟩, trivial⟩, ⟨at407, ⟨at663, trivial, trivial⟩, trivial⟩⟩, ⟨at215, ⟨at343, ⟨at599, trivial, trivial⟩, trivial⟩, ⟨at471, ⟨at727, trivial, trivial⟩, trivial⟩⟩⟩, ⟨at119, ⟨at183, ⟨at311, ⟨at567, trivial, trivial⟩, trivial⟩, ⟨at439, ⟨at695, trivial, trivial⟩, trivial⟩⟩, ⟨at247, ⟨at375, ⟨at631, trivial, trivial⟩, trivial⟩, ⟨at503, ⟨at759, trivial, trivial⟩, trivial⟩⟩⟩⟩⟩⟩, ⟨at11, ⟨at19, ⟨at35, ⟨at67, ⟨at131, ⟨at259, ⟨at515, trivial, trivial⟩, trivial⟩, ⟨at387, ⟨at643, trivial, trivial⟩, trivial⟩⟩, ⟨at195, ⟨at323, ⟨at579, trivial, trivial⟩, trivial⟩, ⟨at451, ⟨at707, trivial, trivial⟩, trivial⟩⟩⟩, ⟨at99, ⟨at163, ⟨at291, ⟨at547, trivial, trivial⟩, trivial⟩, ⟨at419, ⟨at675, trivial, trivial⟩, trivial⟩⟩, ⟨at227, ⟨at355, ⟨at611, trivial, trivial⟩, trivial⟩, ⟨at483, ⟨at739, trivial, trivial⟩, trivial⟩⟩⟩⟩, ⟨at51, ⟨at83, ⟨at147, ⟨at275, ⟨at531, trivial, trivial⟩, trivial⟩, ⟨at403, ⟨at659, trivial, trivial⟩, trivial⟩⟩, ⟨at211, ⟨at339, ⟨at595, trivial, trivial⟩, trivial⟩, ⟨at467, ⟨at723, trivial, trivial⟩, trivial⟩⟩⟩, ⟨at115, ⟨at179, ⟨at307, ⟨at563, trivial, trivial⟩, trivial⟩, ⟨at435, ⟨at691, trivial, trivial⟩, trivial⟩⟩, ⟨at243, ⟨at371, ⟨at627, trivial, trivial⟩, trivial⟩, ⟨at499, ⟨at755, trivial, trivial⟩, trivial⟩⟩⟩⟩⟩, ⟨at27, ⟨at43, ⟨at75, ⟨at139, ⟨at267, ⟨at523, trivial, trivial⟩, trivial⟩, ⟨at395, ⟨at651, trivial, trivial⟩, trivial⟩⟩, ⟨at203, ⟨at331, ⟨at587, trivial, trivial⟩, trivial⟩, ⟨at459, ⟨at715, trivial, trivial⟩, trivial⟩⟩⟩, ⟨at107, ⟨at171, ⟨at299, ⟨at555, trivial, trivial⟩, trivial⟩, ⟨at427, ⟨at683, trivial, trivial⟩, trivial⟩⟩, ⟨at235, ⟨at363, ⟨at619, trivial, trivial⟩, trivial⟩, ⟨at491, ⟨at747, trivial, trivial⟩, trivial⟩⟩⟩⟩, ⟨at59, ⟨at91, ⟨at155, ⟨at283, ⟨at539, trivial, trivial⟩, trivial⟩, ⟨at411, ⟨at667, trivial, trivial⟩, trivial⟩⟩, ⟨at219, ⟨at347, ⟨at603, trivial, trivial⟩, trivial⟩, ⟨at475, ⟨at731, trivial, trivial⟩, trivial⟩⟩⟩, ⟨at123, ⟨at187, ⟨at315, ⟨at571, trivial, trivial⟩, trivial⟩, ⟨at443, ⟨at699, trivial, trivial⟩, trivial⟩⟩, ⟨at251, ⟨at379, ⟨at635, trivial, trivial⟩, trivial⟩, ⟨at507, ⟨at763, trivial, trivial⟩, trivial⟩⟩⟩⟩⟩⟩⟩, ⟨at5, ⟨at9, ⟨at17, ⟨at33, ⟨at65, ⟨at129, ⟨at257, ⟨at513, trivial, trivial⟩, trivial⟩, ⟨at385, ⟨at641, trivial, trivial⟩, trivial⟩⟩, ⟨at193, ⟨at321, ⟨at577, trivial, trivial⟩, trivial⟩, ⟨at449, ⟨at705, trivial, trivial⟩, trivial⟩⟩⟩, ⟨at97, ⟨at161, ⟨at289, ⟨at545, trivial, trivial⟩, trivial⟩, ⟨at417, ⟨at673, trivial, trivial⟩, trivial⟩⟩, ⟨at225, ⟨at353, ⟨at609, trivial, trivial⟩, trivial⟩, ⟨at481, ⟨at737, trivial, trivial⟩, trivial⟩⟩⟩⟩, ⟨at49, ⟨at81, ⟨at145, ⟨at273, ⟨at529, trivial, trivial⟩, trivial⟩, ⟨at401, ⟨at657, trivial, trivial⟩, trivial⟩⟩, ⟨at209, ⟨at337, ⟨at593, trivial, trivial⟩, trivial⟩, ⟨at465, ⟨at721, trivial, trivial⟩, trivial⟩⟩⟩, ⟨at113, ⟨at177, ⟨at305, ⟨at561, trivial, trivial⟩, trivial⟩, ⟨at433, ⟨at689, trivial, trivial⟩, trivial⟩⟩, ⟨at241, ⟨at369, ⟨at625, trivial, trivial⟩, trivial⟩, ⟨at497, ⟨at753, trivial, trivial⟩, trivial⟩⟩⟩⟩⟩, ⟨at25, ⟨at41, ⟨at73, ⟨at137, ⟨at265, ⟨at521, trivial, trivial⟩, trivial⟩, ⟨at393, ⟨at649, trivial, trivial⟩, trivial⟩⟩, ⟨at201, ⟨at329, ⟨at585, trivial, trivial⟩, trivial⟩, ⟨at457, ⟨at713, trivial, trivial⟩, trivial⟩⟩⟩, ⟨at105, ⟨at169, ⟨at297, ⟨at553, trivial, trivial⟩, trivial⟩, ⟨at425, ⟨at681, trivial, trivial⟩, trivial⟩⟩, ⟨at233, ⟨at361, ⟨at617, trivial, trivial⟩, trivial⟩, ⟨at489, ⟨at745, trivial, trivial⟩, trivial⟩⟩⟩⟩, ⟨at57, ⟨at89, ⟨at153, ⟨at281, ⟨at537, trivial, trivial⟩, trivial⟩, ⟨at409, ⟨at665, trivial, trivial⟩, trivial⟩⟩, ⟨at217, ⟨at345, ⟨at601, trivial, trivial⟩, trivial⟩, ⟨at473, ⟨at729, trivial, trivial⟩, trivial⟩⟩⟩, ⟨at121, ⟨at185, ⟨at313, ⟨at569, trivial, trivial⟩, trivial⟩, ⟨at441, ⟨at697, trivial, trivial⟩, trivial⟩⟩, ⟨at249, ⟨at377, ⟨at633, trivial, trivial⟩, trivial⟩, ⟨at505, ⟨at761, trivial, trivial⟩, trivial⟩⟩⟩⟩⟩⟩, ⟨at13, ⟨at21, ⟨at37, ⟨at69, ⟨at133, ⟨at261, ⟨at517, trivial, trivial⟩, trivial⟩, ⟨at389, ⟨at645, trivial, trivial⟩, trivial⟩⟩, ⟨at197, ⟨at325, ⟨at581, trivial, trivial⟩, trivial⟩, ⟨at453, ⟨at709, trivial, trivial⟩, trivial⟩⟩⟩, ⟨at101, ⟨at165, ⟨at293, ⟨at549, trivial, trivial⟩, trivial⟩, ⟨at421, ⟨at677, trivial, trivial⟩, trivial⟩⟩, ⟨at229, ⟨at357, ⟨at613, trivial, trivial⟩, trivial⟩, ⟨at485, ⟨at741, trivial, trivial⟩, trivial⟩⟩⟩⟩, ⟨at53, ⟨at85, ⟨at149, ⟨at277, ⟨at533, trivial, trivial⟩, trivial⟩, ⟨at405, ⟨at661, trivial, trivial⟩, trivial⟩⟩, ⟨at213, ⟨at341, ⟨at597, trivial, trivial⟩, trivial⟩, ⟨at469, ⟨at725, trivial, trivial⟩, trivial⟩⟩⟩, ⟨at117, ⟨at181, ⟨at309, ⟨at565, trivial, trivial⟩, trivial⟩, ⟨at437, ⟨at693, trivial, trivial⟩, trivial⟩⟩, ⟨at245, ⟨at373, ⟨at629, trivial, trivial⟩, trivial⟩, ⟨at501, ⟨at757, trivial, trivial⟩, trivial⟩⟩⟩⟩⟩, ⟨at29, ⟨at45, ⟨at77, ⟨at141, ⟨at269, ⟨at525, trivial, trivial⟩, trivial⟩, ⟨at397, ⟨at653, trivial, trivial⟩, trivial⟩⟩, ⟨at205, ⟨at333, ⟨at589, trivial, trivial⟩, trivial⟩, ⟨at461, ⟨at717, trivial, trivial⟩, trivial⟩⟩⟩, ⟨at109, ⟨at173, ⟨at301, ⟨at557, trivial, trivial⟩, trivial⟩, ⟨at429, ⟨at685, trivial, trivial⟩, trivial⟩⟩, ⟨at237, ⟨at365, ⟨at621, trivial, trivial⟩, trivial⟩, ⟨at493, ⟨at749, trivial, trivial⟩, trivial⟩⟩⟩⟩, ⟨at61, ⟨at93, ⟨at157, ⟨at285, ⟨at541, trivial, trivial⟩, trivial⟩, ⟨at413, ⟨at669, trivial, trivial⟩, trivial⟩⟩, ⟨at221, ⟨at349, ⟨at605, trivial, trivial⟩, trivial⟩, ⟨at477, ⟨at733, trivial, trivial⟩, trivial⟩⟩⟩, ⟨at125, ⟨at189, ⟨at317, ⟨at573, trivial, trivial⟩, trivial⟩, ⟨at445, ⟨at701, trivial, trivial⟩, trivial⟩⟩, ⟨at253, ⟨at381, ⟨at637, trivial, trivial⟩, trivial⟩, ⟨at509, ⟨at765, trivial, trivial⟩, trivial⟩⟩⟩⟩⟩⟩⟩⟩, ⟨at2, ⟨at4, ⟨at8, ⟨at16, ⟨at32, ⟨at64, ⟨at128, ⟨at256, ⟨at512, trivial, trivial⟩, ⟨at768, trivial, trivial⟩⟩, ⟨at384, ⟨at640, trivial, trivial⟩, trivial⟩⟩, ⟨at192, ⟨at320, ⟨at576, trivial, trivial⟩, trivial⟩, ⟨at448, ⟨at704, trivial, trivial⟩, trivial⟩⟩⟩, ⟨at96, ⟨at160, ⟨at288, ⟨at544, trivial, trivial⟩, trivial⟩, ⟨at416, ⟨at672, trivial, trivial⟩, trivial⟩⟩, ⟨at224, ⟨at352, ⟨at608, trivial, trivial⟩, trivial⟩, ⟨at480, ⟨at736, trivial, trivial⟩, trivial⟩⟩⟩⟩, ⟨at48, ⟨at80, ⟨at144, ⟨at272, ⟨at528, trivial, trivial⟩, trivial⟩, ⟨at400, ⟨at656, trivial, trivial⟩, trivial⟩⟩, ⟨at208, ⟨at336, ⟨at592, trivial, trivial⟩, trivial⟩, ⟨at464, ⟨at720, trivial, trivial⟩, trivial⟩⟩⟩, ⟨at112, ⟨at176, ⟨at304, ⟨at560, trivial, trivial⟩, trivial⟩, ⟨at432, ⟨at688, trivial, trivial⟩, trivial⟩⟩, ⟨at240, ⟨at368, ⟨at624, trivial, trivial⟩, trivial⟩, ⟨at496, ⟨at752, trivial, trivial⟩, trivial⟩⟩⟩⟩⟩, ⟨at24, ⟨at40, ⟨at72, ⟨at136, ⟨at264, ⟨at520, trivial, trivial⟩, trivial⟩, ⟨at392, ⟨at648, trivial, trivial⟩, trivial⟩⟩, ⟨at200, ⟨at328, ⟨at584, trivial, trivial⟩, trivial⟩, ⟨at456, ⟨at712, trivial, trivial⟩, trivial⟩⟩⟩, ⟨at104, ⟨at168, ⟨at296, ⟨at552, trivial, trivial⟩, trivial⟩, ⟨at424, ⟨at680, trivial, trivial⟩, trivial⟩⟩, ⟨at232, ⟨at360, ⟨at616, trivial, trivial⟩, trivial⟩, ⟨at488, ⟨at744, trivial, trivial⟩, trivial⟩⟩⟩⟩, ⟨at56, ⟨at88, ⟨at152, ⟨at280, ⟨at536, trivial, trivial⟩, trivial⟩, ⟨at408, ⟨at664, trivial, trivial⟩, trivial⟩⟩, ⟨at216, ⟨at344, ⟨at600, trivial, trivial⟩, trivial⟩, ⟨at472, ⟨at728, trivial, trivial⟩, trivial⟩⟩⟩, ⟨at120, ⟨at184, ⟨at312, ⟨at568, trivial, trivial⟩, trivial⟩, ⟨at440, ⟨at696, trivial, trivial⟩, trivial⟩⟩, ⟨at248, ⟨at376, ⟨at632, trivial, trivial⟩, trivial⟩, ⟨at504, ⟨at760, trivial, trivial⟩, trivial⟩⟩⟩⟩⟩⟩, ⟨at12, ⟨at20, ⟨at36, ⟨at68, ⟨at132, ⟨at260, ⟨at516, trivial, trivial⟩, trivial⟩, ⟨at388, ⟨at644, trivial, trivial⟩, trivial⟩⟩, ⟨at196, ⟨at324, ⟨at580, trivial, trivial⟩, trivial⟩, ⟨at452, ⟨at708, trivial, trivial⟩, trivial⟩⟩⟩, ⟨at100, ⟨at164, ⟨at292, ⟨at548, trivial, trivial⟩, trivial⟩, ⟨at420, ⟨at676, trivial, trivial⟩, trivial⟩⟩, ⟨at228, ⟨at356, ⟨at612, trivial, trivial⟩, trivial⟩, ⟨at484, ⟨at740, trivial, trivial⟩, trivial⟩⟩⟩⟩, ⟨at52, ⟨at84, ⟨at148, ⟨at276, ⟨at532, trivial, trivial⟩, trivial⟩, ⟨at404, ⟨at660, trivial, trivial⟩, trivial⟩⟩, ⟨at212, ⟨at340, ⟨at596, trivial, trivial⟩, trivial⟩, ⟨at468, ⟨at724, trivial, trivial⟩, trivial⟩⟩⟩, ⟨at116, ⟨at180, ⟨at308, ⟨at564, trivial, trivial⟩, trivial⟩, ⟨at436, ⟨at692, trivial, trivial⟩, trivial⟩⟩, ⟨at244, ⟨at372, ⟨at628, trivial, trivial⟩, trivial⟩, ⟨at500, ⟨at756, trivial, trivial⟩, trivial⟩⟩⟩⟩⟩, ⟨at28, ⟨at44, ⟨at76, ⟨at140, ⟨at268, ⟨at524, trivial, trivial⟩, trivial⟩, ⟨at396, ⟨at652, trivial, trivial⟩, trivial⟩⟩, ⟨at204, ⟨at332, ⟨at588, trivial, trivial⟩, trivial⟩, ⟨at460, ⟨at716, trivial, trivial⟩, trivial⟩⟩⟩, ⟨at108, ⟨at172, ⟨at300, ⟨at556, trivial, trivial⟩, trivial⟩, ⟨at428, ⟨at684, trivial, trivial⟩, trivial⟩⟩, ⟨at236, ⟨at364, ⟨at620, trivial, trivial⟩, trivial⟩, ⟨at492, ⟨at748, trivial, trivial⟩, trivial⟩⟩⟩⟩, ⟨at60, ⟨at92, ⟨at156, ⟨at284, ⟨at540, trivial, trivial⟩, trivial⟩, ⟨at412, ⟨at668, trivial, trivial⟩, trivial⟩⟩, ⟨at220, ⟨at348, ⟨at604, trivial, trivial⟩, trivial⟩, ⟨at476, ⟨at732, trivial, trivial⟩, trivial⟩⟩⟩, ⟨at124, ⟨at188, ⟨at316, ⟨at572, trivial, trivial⟩, trivial⟩, ⟨at444, ⟨at700, trivial, trivial⟩, trivial⟩⟩, ⟨at252, ⟨at380, ⟨at636, trivial, trivial⟩, trivial⟩, ⟨at508, ⟨at764, trivial, trivial⟩, trivial⟩⟩⟩⟩⟩⟩⟩, ⟨at6, ⟨at10, ⟨at18, ⟨at34, ⟨at66, ⟨at130, ⟨at258, ⟨at514, trivial, trivial⟩, trivial⟩, ⟨at386, ⟨at642, trivial, trivial⟩, trivial⟩⟩, ⟨at194, ⟨at322, ⟨at578, trivial, trivial⟩, trivial⟩, ⟨at450, ⟨at706, trivial, trivial⟩, trivial⟩⟩⟩, ⟨at98, ⟨at162, ⟨at290, ⟨at546, trivial, trivial⟩, trivial⟩, ⟨at418, ⟨at674, trivial, trivial⟩, trivial⟩⟩, ⟨at226, ⟨at354, ⟨at610, trivial, trivial⟩, trivial⟩, ⟨at482, ⟨at738, trivial, trivial⟩, trivial⟩⟩⟩⟩, ⟨at50, ⟨at82, ⟨at146, ⟨at274, ⟨at530, trivial, trivial⟩, trivial⟩, ⟨at402, ⟨at658, trivial, trivial⟩, trivial⟩⟩, ⟨at210, ⟨at338, ⟨at594, trivial, trivial⟩, trivial⟩, ⟨at466, ⟨at722, trivial, trivial⟩, trivial⟩⟩⟩, ⟨at114, ⟨at178, ⟨at306, ⟨at562, trivial, trivial⟩, trivial⟩, ⟨at434, ⟨at690, trivial, trivial⟩, trivial⟩⟩, ⟨at242, ⟨at370, ⟨at626, trivial, trivial⟩, trivial⟩, ⟨at498, ⟨at754, trivial, trivial⟩, trivial⟩⟩⟩⟩⟩, ⟨at26, ⟨at42, ⟨at74, ⟨at138, ⟨at266, ⟨at522, trivial, trivial⟩, trivial⟩, ⟨at394, ⟨at650, trivial, trivial⟩, trivial⟩⟩, ⟨at202, ⟨at330, ⟨at586, trivial, trivial⟩, trivial⟩, ⟨at458, ⟨at714, trivial, trivial⟩, trivial⟩⟩⟩, ⟨at106, ⟨at170, ⟨at298, ⟨at554, trivial, trivial⟩, trivial⟩, ⟨at426, ⟨at682, trivial, trivial⟩, trivial⟩⟩, ⟨at234, ⟨at362, ⟨at618, trivial, trivial⟩, trivial⟩, ⟨at490, ⟨at746, trivial, trivial⟩, trivial⟩⟩⟩⟩, ⟨at58, ⟨at90, ⟨at154, ⟨at282, ⟨at538, trivial, trivial⟩, trivial⟩, ⟨at410, ⟨at666, trivial, trivial⟩, trivial⟩⟩, ⟨at218, ⟨at346, ⟨at602, trivial, trivial⟩, trivial⟩, ⟨at474, ⟨at730, trivial, trivial⟩, trivial⟩⟩⟩, ⟨at122, ⟨at186, ⟨at314, ⟨at570, trivial, trivial⟩, trivial⟩, ⟨at442, ⟨at698, trivial, trivial⟩, trivial⟩⟩, ⟨at250, ⟨at378, ⟨at634, trivial, trivial⟩, trivial⟩, ⟨at506, ⟨at762, trivial, trivial⟩, trivial⟩⟩⟩⟩⟩⟩, ⟨at14, ⟨at22, ⟨at38, ⟨at70, ⟨at134, ⟨at262, ⟨at518, trivial, trivial⟩, trivial⟩, ⟨at390, ⟨at646, trivial, trivial⟩, trivial⟩⟩, ⟨at198, ⟨at326, ⟨at582, trivial, trivial⟩, trivial⟩, ⟨at454, ⟨at710, trivial, trivial⟩, trivial⟩⟩⟩, ⟨at102, ⟨at166, ⟨at294, ⟨at550, trivial, trivial⟩, trivial⟩, ⟨at422, ⟨at678, trivial, trivial⟩, trivial⟩⟩, ⟨at230, ⟨at358, ⟨at614, trivial, trivial⟩, trivial⟩, ⟨at486, ⟨at742, trivial, trivial⟩, trivial⟩⟩⟩⟩, ⟨at54, ⟨at86, ⟨at150, ⟨at278, ⟨at534, trivial, trivial⟩, trivial⟩, ⟨at406, ⟨at662, trivial, trivial⟩, trivial⟩⟩, ⟨at214, ⟨at342, ⟨at598, trivial, trivial⟩, trivial⟩, ⟨at470, ⟨at726, trivial, trivial⟩, trivial⟩⟩⟩, ⟨at118, ⟨at182, ⟨at310, ⟨at566, trivial, trivial⟩, trivial⟩, ⟨at438, ⟨at694, trivial, trivial⟩, trivial⟩⟩, ⟨at246, ⟨at374, ⟨at630, trivial, trivial⟩, trivial⟩, ⟨at502, ⟨at758, trivial, trivial⟩, trivial⟩⟩⟩⟩⟩, ⟨at30, ⟨at46, ⟨at78, ⟨at142, ⟨at270, ⟨at526, trivial, trivial⟩, trivial⟩, ⟨at398, ⟨at654, trivial, trivial⟩, trivial⟩⟩, ⟨at206, ⟨at334, ⟨at590, trivial, trivial⟩, trivial⟩, ⟨at462, ⟨at718, trivial, trivial⟩, trivial⟩⟩⟩, ⟨at110, ⟨at174, ⟨at302, ⟨at558, trivial, trivial⟩, trivial⟩, ⟨at430, ⟨at686, trivial, trivial⟩, trivial⟩⟩, ⟨at238, ⟨at366, ⟨at622, trivial, trivial⟩, trivial⟩, ⟨at494, ⟨at750, trivial, trivial⟩, trivial⟩⟩⟩⟩, ⟨at62, ⟨at94, ⟨at158, ⟨at286, ⟨at542, trivial, trivial⟩, trivial⟩, ⟨at414, ⟨at670, trivial, trivial⟩, trivial⟩⟩, ⟨at222, ⟨at350, ⟨at606, trivial, trivial⟩, trivial⟩, ⟨at478, ⟨at734, trivial, trivial⟩, trivial⟩⟩⟩, ⟨at126, ⟨at190, ⟨at318, ⟨at574, trivial, trivial⟩, trivial⟩, ⟨at446, ⟨at702, trivial, trivial⟩, trivial⟩⟩, ⟨at254, ⟨at382, ⟨at638, trivial, trivial⟩, trivial⟩, ⟨at510, ⟨at766, trivial, trivial⟩, trivial⟩⟩⟩⟩⟩⟩⟩⟩⟩
end Go.Clo
