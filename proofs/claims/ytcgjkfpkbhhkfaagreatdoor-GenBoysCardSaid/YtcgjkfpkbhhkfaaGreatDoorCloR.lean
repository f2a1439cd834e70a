import Derived.Test.YtcgjkfpkbhhkfaaGreatDoorTabOk
import GoSem.ClaimFn
import GoSem.ClaimGoes
set_option linter.unusedVariables false
set_option linter.unusedSimpArgs false
set_option linter.unusedSectionVars false
namespace Go.Clo
open Go Go.Proofs Go.Ev
/-- what the form's closed facts ask of one function -/
structure FRow where
  leads : List Nat
  place : Option String
  unf : Bool
  vars : List Nat
  entry : Option String
def unfOf (fn : Func) : Bool := match fn.body with
  | some c => c.unfollowed
  | none => entryCalls fn
noncomputable def rowOf (fn : Func) : FRow := ⟨Tryz.prog.leadsTo fn, if fn.ours || fn.body.isNone || fn.name == "runtime.NumGoroutine" then some fn.name else none, unfOf fn, fn.body.elim [] Code.globalsNamed, if fn.body.isNone then entryReads.lookup fn.name else none⟩
def RowAt (q : Pos) (r : FRow) : Prop := ∃ fn, Tryz.prog.funcs[q.toNat - 1]? = some fn ∧ rowOf fn = r ∧ fn.goes = false
noncomputable def rowsAll : T FRow → (Pos → FRow → Prop) → Prop
  | .leaf, _ => True
  | .node l v r, p => (∀ y, v = some y → p .H y) ∧ rowsAll l (fun q => p (.O q)) ∧ rowsAll r (fun q => p (.I q))
theorem rowsAll_get : ∀ (t : T FRow) (p : Pos → FRow → Prop), rowsAll t p → ∀ q y, t.get q = some y → p q y := by
  intro t
  induction t with
  | leaf => intro p _ q y h; cases h
  | node l v r ihl ihr =>
    intro p ⟨h1, h2, h3⟩ q y h
    cases q with
    | H => exact h1 y h
    | O q => exact ihl _ h2 q y h
    | I q => exact ihr _ h3 q y h
theorem noRow {p : FRow → Prop} : ∀ y, (none : Option FRow) = some y → p y := fun _ h => by cases h
theorem row_at {q : Pos} {n : Nat} {fn : Func} {r : FRow} (hq : q.toNat - 1 = n) (h : Tryz.prog.funcs[n]? = some fn) (hr : rowOf fn = r) (hg : fn.goes = false) : ∀ y, some r = some y → RowAt q y := by
  intro y hy
  cases hy
  exact ⟨fn, by rw [hq]; exact h, hr, hg⟩
noncomputable def row0 : FRow := ⟨[], some Tryz.f0.name, false, [], none⟩
noncomputable def row1 : FRow := ⟨[], some Tryz.f1.name, false, [], none⟩
noncomputable def row2 : FRow := ⟨[1], none, false, [], none⟩
noncomputable def row3 : FRow := ⟨[5, 4, 6], none, false, [], none⟩
noncomputable def row4 : FRow := ⟨[7, 8], none, false, [], none⟩
noncomputable def row5 : FRow := ⟨[9, 9, 9, 9, 9, 9, 9, 13, 12, 11, 9, 9, 10, 9, 13, 12, 9, 9, 12, 11, 14, 10, 13, 13, 13, 13, 13, 14, 10], none, false, [], none⟩
noncomputable def row6 : FRow := ⟨[15, 4, 5, 4, 16, 4, 16, 17], none, false, [], none⟩
noncomputable def row7 : FRow := ⟨[18, 19, 20, 21, 22], none, false, [], none⟩
noncomputable def row8 : FRow := ⟨[23, 24, 25, 26], none, false, [], none⟩
noncomputable def row9 : FRow := ⟨[], none, false, [], none⟩
noncomputable def row10 : FRow := ⟨[], none, false, [], none⟩
noncomputable def row11 : FRow := ⟨[9], none, false, [], none⟩
noncomputable def row12 : FRow := ⟨[], none, false, [], none⟩
noncomputable def row13 : FRow := ⟨[], none, false, [], none⟩
noncomputable def row14 : FRow := ⟨[], none, false, [], none⟩
noncomputable def row15 : FRow := ⟨[27, 13, 13, 13, 29, 9, 9, 12, 14, 28, 10], none, false, [], none⟩
noncomputable def row16 : FRow := ⟨[13, 14], none, false, [], none⟩
noncomputable def row17 : FRow := ⟨[18, 30], none, false, [], none⟩
noncomputable def row18 : FRow := ⟨[31], none, false, [], none⟩
noncomputable def row19 : FRow := ⟨[32, 33, 33, 34, 32, 33, 32, 33, 35, 35], none, false, [], none⟩
noncomputable def row20 : FRow := ⟨[], none, false, [], none⟩
noncomputable def row21 : FRow := ⟨[36, 37, 20, 20, 38, 40, 39, 42, 41, 38], none, true, [], none⟩
noncomputable def row22 : FRow := ⟨[44, 45, 46, 47], none, true, [], none⟩
noncomputable def row23 : FRow := ⟨[48, 49, 50], none, false, [], none⟩
noncomputable def row24 : FRow := ⟨[48, 52, 53, 54, 54, 54, 54, 54], none, false, [], none⟩
noncomputable def row25 : FRow := ⟨[51], none, false, [], none⟩
noncomputable def row26 : FRow := ⟨[55, 56], none, false, [], none⟩
noncomputable def row27 : FRow := ⟨[], none, false, [], none⟩
noncomputable def row28 : FRow := ⟨[9], none, false, [], none⟩
noncomputable def row29 : FRow := ⟨[], none, false, [], none⟩
noncomputable def row30 : FRow := ⟨[58, 57], none, false, [], none⟩
noncomputable def row31 : FRow := ⟨[58, 59], none, false, [], none⟩
noncomputable def row32 : FRow := ⟨[], none, false, [], none⟩
noncomputable def row33 : FRow := ⟨[60, 32, 33], none, false, [], none⟩
noncomputable def row34 : FRow := ⟨[], none, false, [], none⟩
noncomputable def row35 : FRow := ⟨[19], none, false, [], none⟩
noncomputable def row36 : FRow := ⟨[], none, false, [], none⟩
noncomputable def row37 : FRow := ⟨[61, 62], none, false, [], none⟩
noncomputable def row38 : FRow := ⟨[], none, false, [], none⟩
noncomputable def row39 : FRow := ⟨[], none, false, [], none⟩
noncomputable def row40 : FRow := ⟨[], none, false, [], none⟩
noncomputable def row41 : FRow := ⟨[64], none, true, [], none⟩
noncomputable def row42 : FRow := ⟨[43], none, false, [], none⟩
noncomputable def row43 : FRow := ⟨[65], none, false, [], none⟩
noncomputable def row44 : FRow := ⟨[], none, false, [], none⟩
noncomputable def row45 : FRow := ⟨[66, 67, 68, 67, 67, 69, 49, 70, 71, 72, 68], none, true, [], none⟩
noncomputable def row46 : FRow := ⟨[], none, false, [], none⟩
noncomputable def row47 : FRow := ⟨[73, 73, 74, 73, 75, 73, 73, 73, 73, 76, 77, 78, 79, 80, 81, 82, 83, 84, 73, 73, 73, 85, 73, 73, 73], none, false, [], none⟩
noncomputable def row48 : FRow := ⟨[22], none, false, [], none⟩
noncomputable def row49 : FRow := ⟨[86], none, false, [], none⟩
noncomputable def row50 : FRow := ⟨[51], none, false, [], none⟩
noncomputable def row51 : FRow := ⟨[], none, false, [], none⟩
noncomputable def row52 : FRow := ⟨[], none, false, [], none⟩
noncomputable def row53 : FRow := ⟨[87, 88], none, false, [], none⟩
noncomputable def row54 : FRow := ⟨[], none, false, [], none⟩
noncomputable def row55 : FRow := ⟨[89, 90, 91, 91, 91, 91, 91, 92, 93, 94, 95, 96, 97, 98, 99, 99, 99, 100, 100, 100, 100, 100, 101, 101, 102, 102, 103, 104, 105, 106, 107, 108, 109, 110, 111, 112, 113, 114, 115, 116, 117, 118, 119, 120, 121, 122, 123, 124, 125, 126, 127, 128, 129, 130], none, false, [], none⟩
noncomputable def row56 : FRow := ⟨[131], none, true, [], none⟩
noncomputable def row57 : FRow := ⟨[133], none, false, [], none⟩
noncomputable def row58 : FRow := ⟨[], none, false, [], none⟩
noncomputable def row59 : FRow := ⟨[133, 134], none, false, [], none⟩
noncomputable def row60 : FRow := ⟨[], none, false, [], none⟩
noncomputable def row61 : FRow := ⟨[137, 136, 135], none, false, [], none⟩
noncomputable def row62 : FRow := ⟨[63, 63, 38, 38, 38, 38, 38, 38, 38, 38, 38, 38, 38], none, false, [], none⟩
noncomputable def row63 : FRow := ⟨[], none, false, [], none⟩
noncomputable def row64 : FRow := ⟨[], none, false, [], none⟩
noncomputable def row65 : FRow := ⟨[36, 138, 139, 140], none, false, [], none⟩
noncomputable def row66 : FRow := ⟨[67], none, false, [], none⟩
noncomputable def row67 : FRow := ⟨[], none, false, [], none⟩
noncomputable def row68 : FRow := ⟨[], none, false, [], none⟩
noncomputable def row69 : FRow := ⟨[], none, true, [], none⟩
noncomputable def row70 : FRow := ⟨[], none, false, [], none⟩
noncomputable def row71 : FRow := ⟨[141], none, false, [], none⟩
noncomputable def row72 : FRow := ⟨[], none, false, [], none⟩
noncomputable def row73 : FRow := ⟨[142], none, false, [], none⟩
noncomputable def row74 : FRow := ⟨[67], none, false, [], none⟩
noncomputable def row75 : FRow := ⟨[67], none, false, [], none⟩
noncomputable def row76 : FRow := ⟨[68], none, false, [], none⟩
noncomputable def row77 : FRow := ⟨[68], none, false, [], none⟩
noncomputable def row78 : FRow := ⟨[67], none, false, [], none⟩
noncomputable def row79 : FRow := ⟨[67], none, false, [], none⟩
noncomputable def row80 : FRow := ⟨[67], none, false, [], none⟩
noncomputable def row81 : FRow := ⟨[67], none, false, [], none⟩
noncomputable def row82 : FRow := ⟨[67], none, false, [], none⟩
noncomputable def row83 : FRow := ⟨[67], none, false, [], none⟩
noncomputable def row84 : FRow := ⟨[67], none, false, [], none⟩
noncomputable def row85 : FRow := ⟨[], none, false, [], none⟩
noncomputable def row86 : FRow := ⟨[], none, true, [], none⟩
noncomputable def row87 : FRow := ⟨[143, 144], none, false, [], none⟩
noncomputable def row88 : FRow := ⟨[], none, false, [], none⟩
noncomputable def row89 : FRow := ⟨[145], none, false, [], none⟩
noncomputable def row90 : FRow := ⟨[], none, false, [], none⟩
noncomputable def row91 : FRow := ⟨[146, 147, 147, 147, 147, 147], none, false, [], none⟩
noncomputable def row92 : FRow := ⟨[148], none, false, [], none⟩
noncomputable def row93 : FRow := ⟨[150, 149, 151, 146, 147], none, false, [], none⟩
noncomputable def row94 : FRow := ⟨[150, 149, 146, 147], none, false, [], none⟩
noncomputable def row95 : FRow := ⟨[150, 149, 152, 146, 147], none, false, [], none⟩
noncomputable def row96 : FRow := ⟨[150, 149, 153, 146, 147, 154, 146, 147, 155, 155, 156, 157, 158, 159], none, false, [], none⟩
noncomputable def row97 : FRow := ⟨[150, 149, 146, 150, 149, 147, 160, 149, 146, 147, 155, 155, 156, 159], none, false, [], none⟩
noncomputable def row98 : FRow := ⟨[150, 149, 146, 147, 155, 155, 156, 159], none, false, [], none⟩
noncomputable def row99 : FRow := ⟨[52, 161, 146, 147, 147, 147], none, false, [], none⟩
noncomputable def row100 : FRow := ⟨[150, 146, 147], none, false, [], none⟩
noncomputable def row101 : FRow := ⟨[162, 158], none, false, [], none⟩
noncomputable def row102 : FRow := ⟨[152, 162, 153, 51, 152, 149, 151, 163, 147], none, false, [], none⟩
noncomputable def row103 : FRow := ⟨[146, 54, 54, 54, 54, 54, 147, 147], none, false, [], none⟩
noncomputable def row104 : FRow := ⟨[152, 163], none, false, [], none⟩
noncomputable def row105 : FRow := ⟨[54, 164], none, false, [], none⟩
noncomputable def row106 : FRow := ⟨[149, 53, 164], none, false, [], none⟩
noncomputable def row107 : FRow := ⟨[148, 151, 149, 164], none, false, [], none⟩
noncomputable def row108 : FRow := ⟨[149, 165, 166, 167, 146, 163, 53, 169, 168], none, false, [], none⟩
noncomputable def row109 : FRow := ⟨[149, 149, 161, 170, 167, 146, 53, 169, 168], none, false, [], none⟩
noncomputable def row110 : FRow := ⟨[149, 159, 170, 171, 151, 173, 172, 88, 167, 146, 168], none, false, [], none⟩
noncomputable def row111 : FRow := ⟨[165, 174], none, false, [], none⟩
noncomputable def row112 : FRow := ⟨[52, 161, 175, 176, 174], none, false, [], none⟩
noncomputable def row113 : FRow := ⟨[162, 159, 170, 159], none, false, [], none⟩
noncomputable def row114 : FRow := ⟨[162, 159], none, false, [], none⟩
noncomputable def row115 : FRow := ⟨[162, 151, 178, 177, 179], none, false, [], none⟩
noncomputable def row116 : FRow := ⟨[162, 161, 162, 161, 170, 152, 180, 159, 179], none, false, [], none⟩
noncomputable def row117 : FRow := ⟨[162, 161, 154, 179], none, false, [], none⟩
noncomputable def row118 : FRow := ⟨[162, 151, 162, 161, 162, 152, 173, 172, 88, 181, 164, 163], none, false, [], none⟩
noncomputable def row119 : FRow := ⟨[162, 151, 173, 172, 88, 179], none, false, [], none⟩
noncomputable def row120 : FRow := ⟨[162, 151, 182, 172, 88, 179], none, false, [], none⟩
noncomputable def row121 : FRow := ⟨[162, 151, 162, 151, 183, 172, 88, 179], none, false, [], none⟩
noncomputable def row122 : FRow := ⟨[162, 151, 162, 151, 162, 151, 186, 185, 184, 179], none, false, [], none⟩
noncomputable def row123 : FRow := ⟨[162, 151, 187, 172, 88, 179], none, false, [], none⟩
noncomputable def row124 : FRow := ⟨[], none, false, [], none⟩
noncomputable def row125 : FRow := ⟨[148, 151, 188, 185], none, false, [], none⟩
noncomputable def row126 : FRow := ⟨[148, 161, 189, 51, 152, 163], none, false, [], none⟩
noncomputable def row127 : FRow := ⟨[162, 161, 162, 161, 51, 152, 179, 156], none, false, [], none⟩
noncomputable def row128 : FRow := ⟨[162, 159, 51, 152, 148, 148, 151, 191, 190], none, false, [], none⟩
noncomputable def row129 : FRow := ⟨[159, 146, 147], none, false, [], none⟩
noncomputable def row130 : FRow := ⟨[], none, false, [], none⟩
noncomputable def row131 : FRow := ⟨[132], none, true, [], none⟩
noncomputable def row132 : FRow := ⟨[192], none, false, [], none⟩
noncomputable def row133 : FRow := ⟨[193], none, true, [], none⟩
noncomputable def row134 : FRow := ⟨[196, 197, 198, 199, 195, 134], none, true, [], none⟩
noncomputable def row135 : FRow := ⟨[200, 201], none, false, [], none⟩
noncomputable def row136 : FRow := ⟨[202], none, false, [], none⟩
noncomputable def row137 : FRow := ⟨[203, 203, 203, 204, 205, 205, 205, 206], none, false, [], none⟩
noncomputable def row138 : FRow := ⟨[], none, false, [], none⟩
noncomputable def row139 : FRow := ⟨[38], none, false, [], none⟩
noncomputable def row140 : FRow := ⟨[38, 207], none, true, [], none⟩
noncomputable def row141 : FRow := ⟨[], none, true, [], none⟩
noncomputable def row142 : FRow := ⟨[67], none, false, [], none⟩
noncomputable def row143 : FRow := ⟨[], none, false, [], none⟩
noncomputable def row144 : FRow := ⟨[208], none, false, [], none⟩
noncomputable def row145 : FRow := ⟨[], none, false, [], none⟩
noncomputable def row146 : FRow := ⟨[209], none, false, [], none⟩
noncomputable def row147 : FRow := ⟨[164], none, false, [], none⟩
noncomputable def row148 : FRow := ⟨[162, 163], none, false, [], none⟩
noncomputable def row149 : FRow := ⟨[152], none, false, [], none⟩
noncomputable def row150 : FRow := ⟨[189], none, false, [], none⟩
noncomputable def row151 : FRow := ⟨[153, 152], none, false, [], none⟩
noncomputable def row152 : FRow := ⟨[], none, false, [], none⟩
noncomputable def row153 : FRow := ⟨[51, 210], none, false, [], none⟩
noncomputable def row154 : FRow := ⟨[159, 181], none, false, [], none⟩
noncomputable def row155 : FRow := ⟨[51, 152], none, false, [], none⟩
noncomputable def row156 : FRow := ⟨[189, 146, 163, 54, 54, 54, 54, 54, 147], none, false, [], none⟩
noncomputable def row157 : FRow := ⟨[], none, false, [], none⟩
noncomputable def row158 : FRow := ⟨[211, 212, 152, 157, 159, 160, 159, 159, 152, 146, 145, 163, 54, 54, 54, 54, 54, 147, 147, 53, 147, 147], none, false, [], none⟩
noncomputable def row159 : FRow := ⟨[], none, false, [], none⟩
noncomputable def row160 : FRow := ⟨[51, 152, 189], none, false, [], none⟩
noncomputable def row161 : FRow := ⟨[152], none, false, [], none⟩
noncomputable def row162 : FRow := ⟨[152], none, false, [], none⟩
noncomputable def row163 : FRow := ⟨[164], none, false, [], none⟩
noncomputable def row164 : FRow := ⟨[], none, false, [], none⟩
noncomputable def row165 : FRow := ⟨[162, 161, 162, 161], none, false, [], none⟩
noncomputable def row166 : FRow := ⟨[213, 159], none, false, [], none⟩
noncomputable def row167 : FRow := ⟨[], none, false, [], none⟩
noncomputable def row168 : FRow := ⟨[54, 147, 214, 147, 147, 164], none, false, [], none⟩
noncomputable def row169 : FRow := ⟨[215], none, false, [], none⟩
noncomputable def row170 : FRow := ⟨[52, 51, 216, 51, 54, 152, 217, 218, 152], none, false, [], none⟩
noncomputable def row171 : FRow := ⟨[], none, false, [], none⟩
noncomputable def row172 : FRow := ⟨[219], none, false, [], none⟩
noncomputable def row173 : FRow := ⟨[143, 144, 220, 221], none, false, [], none⟩
noncomputable def row174 : FRow := ⟨[166, 52, 175, 222, 163, 167, 146, 163, 53, 169, 175, 223, 171, 51, 164, 167, 214, 164, 54, 164], none, false, [], none⟩
noncomputable def row175 : FRow := ⟨[52, 170], none, false, [], none⟩
noncomputable def row176 : FRow := ⟨[], none, false, [], none⟩
noncomputable def row177 : FRow := ⟨[219], none, false, [], none⟩
noncomputable def row178 : FRow := ⟨[224, 220, 221], none, false, [], none⟩
noncomputable def row179 : FRow := ⟨[163, 147], none, false, [], none⟩
noncomputable def row180 : FRow := ⟨[225, 226], none, false, [], none⟩
noncomputable def row181 : FRow := ⟨[227, 151, 152], none, false, [], none⟩
noncomputable def row182 : FRow := ⟨[143, 208, 220, 208, 228, 229], none, false, [], none⟩
noncomputable def row183 : FRow := ⟨[143, 230, 208, 220], none, true, [], none⟩
noncomputable def row184 : FRow := ⟨[88], none, false, [], none⟩
noncomputable def row185 : FRow := ⟨[219], none, false, [], none⟩
noncomputable def row186 : FRow := ⟨[231, 220, 232, 233, 234], none, false, [], none⟩
noncomputable def row187 : FRow := ⟨[143, 208, 220, 232, 233, 235, 233, 229, 237, 236, 235], none, false, [], none⟩
noncomputable def row188 : FRow := ⟨[231, 220, 208], none, false, [], none⟩
noncomputable def row189 : FRow := ⟨[238, 152], none, false, [], none⟩
noncomputable def row190 : FRow := ⟨[219], none, false, [], none⟩
noncomputable def row191 : FRow := ⟨[239, 144, 220, 221, 241, 240], none, false, [], none⟩
noncomputable def row192 : FRow := ⟨[], none, true, [], none⟩
noncomputable def row193 : FRow := ⟨[194, 195], none, true, [], none⟩
noncomputable def row194 : FRow := ⟨[], none, false, [], none⟩
noncomputable def row195 : FRow := ⟨[242], none, false, [], none⟩
noncomputable def row196 : FRow := ⟨[250, 251, 251, 251, 72, 252, 253, 251], none, false, [], none⟩
noncomputable def row197 : FRow := ⟨[], none, false, [], none⟩
noncomputable def row198 : FRow := ⟨[254, 254, 254, 254, 255, 251, 251, 256], none, false, [], none⟩
noncomputable def row199 : FRow := ⟨[254, 254, 254, 254, 254, 253, 255, 257], none, false, [], none⟩
noncomputable def row200 : FRow := ⟨[258], none, false, [], none⟩
noncomputable def row201 : FRow := ⟨[260, 259], none, false, [], none⟩
noncomputable def row202 : FRow := ⟨[], none, true, [], none⟩
noncomputable def row203 : FRow := ⟨[261], none, false, [], none⟩
noncomputable def row204 : FRow := ⟨[264], none, false, [], none⟩
noncomputable def row205 : FRow := ⟨[265], none, false, [], none⟩
noncomputable def row206 : FRow := ⟨[267, 264, 266], none, false, [], none⟩
noncomputable def row207 : FRow := ⟨[268, 269, 270, 271, 272, 273, 274], none, false, [], none⟩
noncomputable def row208 : FRow := ⟨[], none, false, [], none⟩
noncomputable def row209 : FRow := ⟨[275, 52, 276, 171, 277, 54, 54, 164, 171, 51, 164, 164], none, true, [], none⟩
noncomputable def row210 : FRow := ⟨[235, 278, 279, 72, 228], none, false, [], none⟩
noncomputable def row211 : FRow := ⟨[280], none, false, [], none⟩
noncomputable def row212 : FRow := ⟨[], none, false, [], none⟩
noncomputable def row213 : FRow := ⟨[225, 281], none, false, [], none⟩
noncomputable def row214 : FRow := ⟨[], none, false, [], none⟩
noncomputable def row215 : FRow := ⟨[282, 283], none, false, [], none⟩
noncomputable def row216 : FRow := ⟨[51], none, false, [], none⟩
noncomputable def row217 : FRow := ⟨[51, 51, 213], none, false, [], none⟩
noncomputable def row218 : FRow := ⟨[171, 284, 211], none, false, [], none⟩
noncomputable def row219 : FRow := ⟨[], none, false, [], none⟩
noncomputable def row220 : FRow := ⟨[210, 208], none, false, [], none⟩
noncomputable def row221 : FRow := ⟨[208, 285, 279, 286, 236, 235], none, false, [], none⟩
noncomputable def row222 : FRow := ⟨[], none, false, [], none⟩
noncomputable def row223 : FRow := ⟨[171, 151, 287, 152, 88], none, false, [], none⟩
noncomputable def row224 : FRow := ⟨[], none, false, [], none⟩
noncomputable def row225 : FRow := ⟨[288, 281], none, false, [], none⟩
noncomputable def row226 : FRow := ⟨[289], none, false, [], none⟩
noncomputable def row227 : FRow := ⟨[51, 51, 152], none, false, [], none⟩
noncomputable def row228 : FRow := ⟨[], none, false, [], none⟩
noncomputable def row229 : FRow := ⟨[290, 236, 235, 292, 291, 279], none, false, [], none⟩
noncomputable def row230 : FRow := ⟨[293, 294, 295, 296, 297, 298, 299, 300, 301, 302, 303, 304, 305, 306, 307, 308], none, false, [], none⟩
noncomputable def row231 : FRow := ⟨[], none, false, [], none⟩
noncomputable def row232 : FRow := ⟨[208], none, false, [], none⟩
noncomputable def row233 : FRow := ⟨[235, 234], none, false, [], none⟩
noncomputable def row234 : FRow := ⟨[232, 309, 236, 285, 285, 310, 236], none, false, [], none⟩
noncomputable def row235 : FRow := ⟨[], none, false, [], none⟩
noncomputable def row236 : FRow := ⟨[], none, false, [], none⟩
noncomputable def row237 : FRow := ⟨[72, 312, 311], none, false, [], none⟩
noncomputable def row238 : FRow := ⟨[313], none, true, [], none⟩
noncomputable def row239 : FRow := ⟨[], none, false, [], none⟩
noncomputable def row240 : FRow := ⟨[], none, false, [], none⟩
noncomputable def row241 : FRow := ⟨[239, 220, 314, 240, 315, 240], none, false, [], none⟩
noncomputable def row242 : FRow := ⟨[243, 244, 243, 244, 245, 246, 247, 248, 249, 58, 243, 244, 249, 58, 243, 244, 243, 244], none, false, [], none⟩
noncomputable def row243 : FRow := ⟨[], none, true, [], none⟩
noncomputable def row244 : FRow := ⟨[], none, false, [], none⟩
noncomputable def row245 : FRow := ⟨[], none, true, [], none⟩
noncomputable def row246 : FRow := ⟨[], none, false, [], none⟩
noncomputable def row247 : FRow := ⟨[], none, true, [], none⟩
noncomputable def row248 : FRow := ⟨[], none, false, [], none⟩
noncomputable def row249 : FRow := ⟨[], none, true, [], none⟩
noncomputable def row250 : FRow := ⟨[], none, false, [], none⟩
noncomputable def row251 : FRow := ⟨[], none, false, [], none⟩
noncomputable def row252 : FRow := ⟨[251], none, false, [], none⟩
noncomputable def row253 : FRow := ⟨[316, 317, 71, 318], none, false, [], none⟩
noncomputable def row254 : FRow := ⟨[], none, false, [], none⟩
noncomputable def row255 : FRow := ⟨[320, 321], none, false, [], none⟩
noncomputable def row256 : FRow := ⟨[322, 324, 323], none, false, [], none⟩
noncomputable def row257 : FRow := ⟨[325, 326], none, false, [], none⟩
noncomputable def row258 : FRow := ⟨[], none, true, [], none⟩
noncomputable def row259 : FRow := ⟨[327, 328, 329, 330, 331, 332, 333, 334, 335, 259, 259], none, false, [], none⟩
noncomputable def row260 : FRow := ⟨[336, 337], none, false, [], none⟩
noncomputable def row261 : FRow := ⟨[262, 187, 263], none, false, [], none⟩
noncomputable def row262 : FRow := ⟨[267, 339, 338, 341, 340, 342, 343, 264, 338, 262, 182, 263, 262, 262, 183, 263, 344, 262, 264, 345, 263], none, true, [], none⟩
noncomputable def row263 : FRow := ⟨[219, 264], none, false, [], none⟩
noncomputable def row264 : FRow := ⟨[], none, false, [], none⟩
noncomputable def row265 : FRow := ⟨[262, 191, 263, 266], none, false, [], none⟩
noncomputable def row266 : FRow := ⟨[346], none, false, [], none⟩
noncomputable def row267 : FRow := ⟨[339], none, false, [], none⟩
noncomputable def row268 : FRow := ⟨[347, 348, 38], none, false, [], none⟩
noncomputable def row269 : FRow := ⟨[349, 38], none, false, [], none⟩
noncomputable def row270 : FRow := ⟨[348, 350, 43, 350, 43], none, true, [], none⟩
noncomputable def row271 : FRow := ⟨[351, 352, 353, 354, 63, 348, 38, 350, 356, 38, 63, 350, 38, 350, 43, 38, 38, 38, 350, 38, 38], none, true, [], none⟩
noncomputable def row272 : FRow := ⟨[358, 357, 38], none, false, [], none⟩
noncomputable def row273 : FRow := ⟨[20, 38, 359, 39, 360, 41, 38], none, false, [], none⟩
noncomputable def row274 : FRow := ⟨[65], none, false, [], none⟩
noncomputable def row275 : FRow := ⟨[52, 153, 216, 217, 218, 363, 364, 171], none, false, [], none⟩
noncomputable def row276 : FRow := ⟨[365], none, false, [], none⟩
noncomputable def row277 : FRow := ⟨[164], none, false, [], none⟩
noncomputable def row278 : FRow := ⟨[], none, false, [], none⟩
noncomputable def row279 : FRow := ⟨[], none, false, [], none⟩
noncomputable def row280 : FRow := ⟨[], none, true, [], none⟩
noncomputable def row281 : FRow := ⟨[], none, false, [], none⟩
noncomputable def row282 : FRow := ⟨[], none, false, [], none⟩
noncomputable def row283 : FRow := ⟨[], none, false, [], none⟩
noncomputable def row284 : FRow := ⟨[153], none, false, [], none⟩
noncomputable def row285 : FRow := ⟨[366], none, false, [], none⟩
noncomputable def row286 : FRow := ⟨[72, 312, 311, 312, 311], none, false, [], none⟩
noncomputable def row287 : FRow := ⟨[367, 225, 368, 369, 370, 371, 372, 373, 371, 372], none, true, [], none⟩
noncomputable def row288 : FRow := ⟨[374, 376, 375], none, false, [], none⟩
noncomputable def row289 : FRow := ⟨[281], none, false, [], none⟩
noncomputable def row290 : FRow := ⟨[377, 378], none, false, [], none⟩
noncomputable def row291 : FRow := ⟨[], none, false, [], none⟩
noncomputable def row292 : FRow := ⟨[72, 379], none, false, [], none⟩
noncomputable def row293 : FRow := ⟨[380, 381, 382], none, false, [], none⟩
noncomputable def row294 : FRow := ⟨[380, 383, 384], none, false, [], none⟩
noncomputable def row295 : FRow := ⟨[380, 385, 386], none, false, [], none⟩
noncomputable def row296 : FRow := ⟨[232, 233, 208, 285, 285, 387, 291, 279], none, false, [], none⟩
noncomputable def row297 : FRow := ⟨[208, 388, 236, 235], none, false, [], none⟩
noncomputable def row298 : FRow := ⟨[232, 208, 233, 208, 389, 236, 235, 285, 390, 291, 279], none, false, [], none⟩
noncomputable def row299 : FRow := ⟨[234, 228], none, false, [], none⟩
noncomputable def row300 : FRow := ⟨[234, 228], none, false, [], none⟩
noncomputable def row301 : FRow := ⟨[234, 228], none, false, [], none⟩
noncomputable def row302 : FRow := ⟨[234, 228], none, false, [], none⟩
noncomputable def row303 : FRow := ⟨[234, 228], none, false, [], none⟩
noncomputable def row304 : FRow := ⟨[234, 228], none, false, [], none⟩
noncomputable def row305 : FRow := ⟨[391, 228], none, false, [], none⟩
noncomputable def row306 : FRow := ⟨[391, 228], none, false, [], none⟩
noncomputable def row307 : FRow := ⟨[391, 228], none, false, [], none⟩
noncomputable def row308 : FRow := ⟨[391, 228], none, false, [], none⟩
noncomputable def row309 : FRow := ⟨[392, 393], none, false, [], none⟩
noncomputable def row310 : FRow := ⟨[395, 397, 397, 396], none, false, [], none⟩
noncomputable def row311 : FRow := ⟨[], none, false, [], none⟩
noncomputable def row312 : FRow := ⟨[], none, false, [], none⟩
noncomputable def row313 : FRow := ⟨[398], none, false, [], none⟩
noncomputable def row314 : FRow := ⟨[278, 399], none, false, [], none⟩
noncomputable def row315 : FRow := ⟨[72, 379, 400, 399, 401, 401], none, false, [], none⟩
noncomputable def row316 : FRow := ⟨[], none, false, [], none⟩
noncomputable def row317 : FRow := ⟨[403, 402], none, false, [], none⟩
noncomputable def row318 : FRow := ⟨[319], none, false, [], none⟩
noncomputable def row319 : FRow := ⟨[316, 404], none, false, [], none⟩
noncomputable def row320 : FRow := ⟨[405], none, false, [], none⟩
noncomputable def row321 : FRow := ⟨[253], none, false, [], none⟩
noncomputable def row322 : FRow := ⟨[253, 251, 251, 251], none, false, [], none⟩
noncomputable def row323 : FRow := ⟨[406], none, false, [], none⟩
noncomputable def row324 : FRow := ⟨[], none, false, [], none⟩
noncomputable def row325 : FRow := ⟨[407], none, false, [], none⟩
noncomputable def row326 : FRow := ⟨[], none, false, [], none⟩
noncomputable def row327 : FRow := ⟨[333], none, false, [], none⟩
noncomputable def row328 : FRow := ⟨[408, 408], none, false, [], none⟩
noncomputable def row329 : FRow := ⟨[409, 410], none, false, [], none⟩
noncomputable def row330 : FRow := ⟨[411, 411, 411, 412], none, false, [], none⟩
noncomputable def row331 : FRow := ⟨[], none, false, [], none⟩
noncomputable def row332 : FRow := ⟨[333, 333, 333], none, false, [], none⟩
noncomputable def row333 : FRow := ⟨[413, 413], none, false, [], none⟩
noncomputable def row334 : FRow := ⟨[333, 333], none, false, [], none⟩
noncomputable def row335 : FRow := ⟨[333, 333, 333, 333], none, false, [], none⟩
noncomputable def row336 : FRow := ⟨[], none, false, [], none⟩
noncomputable def row337 : FRow := ⟨[], none, false, [], none⟩
noncomputable def row338 : FRow := ⟨[264, 137, 264, 264, 414], none, false, [], none⟩
noncomputable def row339 : FRow := ⟨[137], none, false, [], none⟩
noncomputable def row340 : FRow := ⟨[367, 226], none, false, [], none⟩
noncomputable def row341 : FRow := ⟨[415, 416], none, false, [], none⟩
noncomputable def row342 : FRow := ⟨[264, 264], none, false, [], none⟩
noncomputable def row343 : FRow := ⟨[267, 339], none, false, [], none⟩
noncomputable def row344 : FRow := ⟨[417], none, false, [], none⟩
noncomputable def row345 : FRow := ⟨[143, 418, 208, 235, 279, 228, 345, 419, 229], none, false, [], none⟩
noncomputable def row346 : FRow := ⟨[420], none, false, [], none⟩
noncomputable def row347 : FRow := ⟨[421, 358, 422, 423, 424, 38, 425, 139, 424, 38, 139], none, false, [], none⟩
noncomputable def row348 : FRow := ⟨[426, 358, 427, 421, 38, 358, 357, 348, 38, 348, 348, 38, 348, 428, 139], none, false, [], none⟩
noncomputable def row349 : FRow := ⟨[358, 429, 424, 38, 139, 358, 430, 38, 139, 348, 38, 38, 349, 428, 139], none, true, [], none⟩
noncomputable def row350 : FRow := ⟨[38, 431], none, false, [], none⟩
noncomputable def row351 : FRow := ⟨[347, 38], none, true, [], none⟩
noncomputable def row352 : FRow := ⟨[], none, false, [], none⟩
noncomputable def row353 : FRow := ⟨[38, 38, 350, 63], none, false, [], none⟩
noncomputable def row354 : FRow := ⟨[355], none, false, [], none⟩
noncomputable def row355 : FRow := ⟨[348], none, false, [], none⟩
noncomputable def row356 : FRow := ⟨[348, 38], none, true, [], none⟩
noncomputable def row357 : FRow := ⟨[432, 433, 430, 434, 38], none, false, [], none⟩
noncomputable def row358 : FRow := ⟨[], none, false, [], none⟩
noncomputable def row359 : FRow := ⟨[], none, false, [], none⟩
noncomputable def row360 : FRow := ⟨[36, 361, 138, 139, 362, 140], none, false, [], none⟩
noncomputable def row361 : FRow := ⟨[352, 38, 352, 435, 436], none, false, [], none⟩
noncomputable def row362 : FRow := ⟨[348, 38, 38, 38, 38, 38], none, false, [], none⟩
noncomputable def row363 : FRow := ⟨[260, 437], none, false, [], none⟩
noncomputable def row364 : FRow := ⟨[], none, false, [], none⟩
noncomputable def row365 : FRow := ⟨[], none, true, [], none⟩
noncomputable def row366 : FRow := ⟨[439, 438, 379], none, false, [], none⟩
noncomputable def row367 : FRow := ⟨[440, 225, 281, 442, 441], none, false, [], none⟩
noncomputable def row368 : FRow := ⟨[], none, true, [], none⟩
noncomputable def row369 : FRow := ⟨[], none, false, [], none⟩
noncomputable def row370 : FRow := ⟨[176, 443], none, false, [], none⟩
noncomputable def row371 : FRow := ⟨[444], none, false, [], none⟩
noncomputable def row372 : FRow := ⟨[], none, false, [], none⟩
noncomputable def row373 : FRow := ⟨[281, 87, 176, 445], none, false, [], none⟩
noncomputable def row374 : FRow := ⟨[], none, false, [], none⟩
noncomputable def row375 : FRow := ⟨[446], none, false, [], none⟩
noncomputable def row376 : FRow := ⟨[], none, true, [], none⟩
noncomputable def row377 : FRow := ⟨[278, 447], none, true, [], none⟩
noncomputable def row378 : FRow := ⟨[], none, false, [], none⟩
noncomputable def row379 : FRow := ⟨[], none, false, [], none⟩
noncomputable def row380 : FRow := ⟨[232, 236, 235, 285, 285, 291, 279], none, true, [], none⟩
noncomputable def row381 : FRow := ⟨[392, 448], none, false, [], none⟩
noncomputable def row382 : FRow := ⟨[449, 450], none, false, [], none⟩
noncomputable def row383 : FRow := ⟨[392, 451], none, false, [], none⟩
noncomputable def row384 : FRow := ⟨[449, 452], none, false, [], none⟩
noncomputable def row385 : FRow := ⟨[392, 453], none, false, [], none⟩
noncomputable def row386 : FRow := ⟨[449, 454], none, false, [], none⟩
noncomputable def row387 : FRow := ⟨[395, 449, 455], none, false, [], none⟩
noncomputable def row388 : FRow := ⟨[456, 457], none, false, [], none⟩
noncomputable def row389 : FRow := ⟨[458, 278], none, false, [], none⟩
noncomputable def row390 : FRow := ⟨[72, 460, 459, 462, 459], none, false, [], none⟩
noncomputable def row391 : FRow := ⟨[208], none, false, [], none⟩
noncomputable def row392 : FRow := ⟨[458, 447], none, true, [], none⟩
noncomputable def row393 : FRow := ⟨[394], none, false, [], none⟩
noncomputable def row394 : FRow := ⟨[], none, false, [], none⟩
noncomputable def row395 : FRow := ⟨[464, 465], none, false, [], none⟩
noncomputable def row396 : FRow := ⟨[], none, false, [], none⟩
noncomputable def row397 : FRow := ⟨[], none, false, [], none⟩
noncomputable def row398 : FRow := ⟨[], none, true, [], none⟩
noncomputable def row399 : FRow := ⟨[466], none, false, [], none⟩
noncomputable def row400 : FRow := ⟨[467, 468, 469, 468, 470, 471, 472, 472, 473, 469, 474, 474, 475, 476], none, false, [], none⟩
noncomputable def row401 : FRow := ⟨[215, 477, 477, 477, 477, 477, 478, 266, 479, 479, 479, 480, 266, 480], none, false, [], none⟩
noncomputable def row402 : FRow := ⟨[481], none, false, [], none⟩
noncomputable def row403 : FRow := ⟨[482], none, false, [], none⟩
noncomputable def row404 : FRow := ⟨[], none, false, [], none⟩
noncomputable def row405 : FRow := ⟨[], none, true, [], none⟩
noncomputable def row406 : FRow := ⟨[], none, true, [], none⟩
noncomputable def row407 : FRow := ⟨[], none, true, [], none⟩
noncomputable def row408 : FRow := ⟨[333, 333], none, false, [], none⟩
noncomputable def row409 : FRow := ⟨[260], none, false, [], none⟩
noncomputable def row410 : FRow := ⟨[], none, false, [], none⟩
noncomputable def row411 : FRow := ⟨[412], none, false, [], none⟩
noncomputable def row412 : FRow := ⟨[483, 483, 483], none, false, [], none⟩
noncomputable def row413 : FRow := ⟨[], none, false, [], none⟩
noncomputable def row414 : FRow := ⟨[484, 137, 264, 264], none, true, [], none⟩
noncomputable def row415 : FRow := ⟨[343, 264, 264], none, false, [], none⟩
noncomputable def row416 : FRow := ⟨[262, 178, 263], none, false, [], none⟩
noncomputable def row417 : FRow := ⟨[262, 188, 263], none, false, [], none⟩
noncomputable def row418 : FRow := ⟨[244, 59], none, false, [], none⟩
noncomputable def row419 : FRow := ⟨[], none, false, [], none⟩
noncomputable def row420 : FRow := ⟨[], some Tryz.f420.name, false, [], none⟩
noncomputable def row421 : FRow := ⟨[358, 430, 38, 348, 38, 38], none, true, [], none⟩
noncomputable def row422 : FRow := ⟨[424, 38], none, false, [], none⟩
noncomputable def row423 : FRow := ⟨[38], none, false, [], none⟩
noncomputable def row424 : FRow := ⟨[485], none, false, [], none⟩
noncomputable def row425 : FRow := ⟨[], none, false, [], none⟩
noncomputable def row426 : FRow := ⟨[38, 486, 38, 38, 38], none, false, [], none⟩
noncomputable def row427 : FRow := ⟨[424, 38, 38, 424, 38, 432, 38, 139], none, false, [], none⟩
noncomputable def row428 : FRow := ⟨[348, 350, 350], none, true, [], none⟩
noncomputable def row429 : FRow := ⟨[424, 38, 487, 39], none, false, [], none⟩
noncomputable def row430 : FRow := ⟨[38], none, false, [], none⟩
noncomputable def row431 : FRow := ⟨[63], none, false, [], none⟩
noncomputable def row432 : FRow := ⟨[424, 38], none, false, [], none⟩
noncomputable def row433 : FRow := ⟨[424, 38], none, false, [], none⟩
noncomputable def row434 : FRow := ⟨[426, 488, 38, 358, 489, 38], none, true, [], none⟩
noncomputable def row435 : FRow := ⟨[20, 490], none, false, [], none⟩
noncomputable def row436 : FRow := ⟨[20, 36, 352, 352, 492, 495, 39], none, false, [], none⟩
noncomputable def row437 : FRow := ⟨[496, 497, 498, 499, 500, 501, 502, 503, 437, 437], none, true, [], none⟩
noncomputable def row438 : FRow := ⟨[504, 504, 473, 473, 470, 504, 474, 473, 469], none, false, [], none⟩
noncomputable def row439 : FRow := ⟨[505], none, false, [], none⟩
noncomputable def row440 : FRow := ⟨[], none, false, [], none⟩
noncomputable def row441 : FRow := ⟨[506], none, false, [], none⟩
noncomputable def row442 : FRow := ⟨[210], none, false, [], none⟩
noncomputable def row443 : FRow := ⟨[], none, false, [], none⟩
noncomputable def row444 : FRow := ⟨[371], none, true, [], none⟩
noncomputable def row445 : FRow := ⟨[215], none, false, [], none⟩
noncomputable def row446 : FRow := ⟨[], none, true, [], none⟩
noncomputable def row447 : FRow := ⟨[278], none, false, [], none⟩
noncomputable def row448 : FRow := ⟨[], none, false, [], none⟩
noncomputable def row449 : FRow := ⟨[395, 507, 459], none, false, [], none⟩
noncomputable def row450 : FRow := ⟨[467, 473, 467, 473, 471, 438, 379, 469, 508, 438, 379, 508, 438, 379], none, false, [], none⟩
noncomputable def row451 : FRow := ⟨[], none, false, [], none⟩
noncomputable def row452 : FRow := ⟨[379, 450], none, false, [], none⟩
noncomputable def row453 : FRow := ⟨[], none, false, [], none⟩
noncomputable def row454 : FRow := ⟨[467, 467, 509, 438, 379], none, false, [], none⟩
noncomputable def row455 : FRow := ⟨[467, 467, 438, 379], none, false, [], none⟩
noncomputable def row456 : FRow := ⟨[458, 447], none, true, [], none⟩
noncomputable def row457 : FRow := ⟨[], none, false, [], none⟩
noncomputable def row458 : FRow := ⟨[49, 510], none, false, [], none⟩
noncomputable def row459 : FRow := ⟨[511], none, true, [], none⟩
noncomputable def row460 : FRow := ⟨[461], none, false, [], none⟩
noncomputable def row461 : FRow := ⟨[463, 461, 454, 461, 454], none, false, [], none⟩
noncomputable def row462 : FRow := ⟨[461, 463, 455], none, false, [], none⟩
noncomputable def row463 : FRow := ⟨[366], none, false, [], none⟩
noncomputable def row464 : FRow := ⟨[512], none, false, [], none⟩
noncomputable def row465 : FRow := ⟨[72], none, false, [], none⟩
noncomputable def row466 : FRow := ⟨[513], none, false, [], none⟩
noncomputable def row467 : FRow := ⟨[439], none, false, [], none⟩
noncomputable def row468 : FRow := ⟨[473, 473, 514, 509, 514, 509], none, false, [], none⟩
noncomputable def row469 : FRow := ⟨[], none, false, [], none⟩
noncomputable def row470 : FRow := ⟨[515, 504, 504, 473, 473, 469, 508, 471], none, false, [], none⟩
noncomputable def row471 : FRow := ⟨[505], none, false, [], none⟩
noncomputable def row472 : FRow := ⟨[516, 459], none, false, [], none⟩
noncomputable def row473 : FRow := ⟨[505], none, false, [], none⟩
noncomputable def row474 : FRow := ⟨[], none, false, [], none⟩
noncomputable def row475 : FRow := ⟨[518], none, false, [], none⟩
noncomputable def row476 : FRow := ⟨[519, 520, 521, 522], none, false, [], none⟩
noncomputable def row477 : FRow := ⟨[523], none, false, [], none⟩
noncomputable def row478 : FRow := ⟨[346, 524], none, false, [], none⟩
noncomputable def row479 : FRow := ⟨[], none, false, [], none⟩
noncomputable def row480 : FRow := ⟨[], none, false, [], none⟩
noncomputable def row481 : FRow := ⟨[], none, false, [], none⟩
noncomputable def row482 : FRow := ⟨[525, 526], none, false, [0, 0, 0, 0], none⟩
noncomputable def row483 : FRow := ⟨[333], none, false, [], none⟩
noncomputable def row484 : FRow := ⟨[264, 264, 527, 528, 264, 529, 530], none, false, [], none⟩
noncomputable def row485 : FRow := ⟨[], none, false, [], none⟩
noncomputable def row486 : FRow := ⟨[], none, false, [], none⟩
noncomputable def row487 : FRow := ⟨[], none, false, [], none⟩
noncomputable def row488 : FRow := ⟨[], none, false, [], none⟩
noncomputable def row489 : FRow := ⟨[20, 531, 348, 534, 421, 535, 349, 536], none, true, [], none⟩
noncomputable def row490 : FRow := ⟨[491, 41], none, false, [], none⟩
noncomputable def row491 : FRow := ⟨[63, 349, 38], none, false, [], none⟩
noncomputable def row492 : FRow := ⟨[493, 41], none, false, [], none⟩
noncomputable def row493 : FRow := ⟨[63, 494, 43, 38], none, false, [], none⟩
noncomputable def row494 : FRow := ⟨[38, 38, 38, 38], none, false, [], none⟩
noncomputable def row495 : FRow := ⟨[], none, false, [], none⟩
noncomputable def row496 : FRow := ⟨[], none, true, [], none⟩
noncomputable def row497 : FRow := ⟨[537, 537], none, false, [], none⟩
noncomputable def row498 : FRow := ⟨[409, 410], none, false, [], none⟩
noncomputable def row499 : FRow := ⟨[538, 538, 538, 539], none, false, [], none⟩
noncomputable def row500 : FRow := ⟨[], none, false, [], none⟩
noncomputable def row501 : FRow := ⟨[], none, true, [], none⟩
noncomputable def row502 : FRow := ⟨[], none, true, [], none⟩
noncomputable def row503 : FRow := ⟨[], none, true, [], none⟩
noncomputable def row504 : FRow := ⟨[], none, false, [], none⟩
noncomputable def row505 : FRow := ⟨[], none, false, [], none⟩
noncomputable def row506 : FRow := ⟨[], none, true, [], none⟩
noncomputable def row507 : FRow := ⟨[], none, true, [], none⟩
noncomputable def row508 : FRow := ⟨[515, 505], none, false, [], none⟩
noncomputable def row509 : FRow := ⟨[505], none, false, [], none⟩
noncomputable def row510 : FRow := ⟨[278], none, false, [], none⟩
noncomputable def row511 : FRow := ⟨[], none, false, [], none⟩
noncomputable def row512 : FRow := ⟨[], none, true, [], none⟩
noncomputable def row513 : FRow := ⟨[540, 541, 542, 543], none, false, [], none⟩
noncomputable def row514 : FRow := ⟨[544, 509, 509], none, false, [], none⟩
noncomputable def row515 : FRow := ⟨[], none, false, [], none⟩
noncomputable def row516 : FRow := ⟨[517], none, false, [], none⟩
noncomputable def row517 : FRow := ⟨[514, 509, 438, 514, 438], none, false, [], none⟩
noncomputable def row518 : FRow := ⟨[540, 541, 542, 543], none, false, [], none⟩
noncomputable def row519 : FRow := ⟨[], none, false, [], none⟩
noncomputable def row520 : FRow := ⟨[], none, false, [], none⟩
noncomputable def row521 : FRow := ⟨[545], none, false, [], none⟩
noncomputable def row522 : FRow := ⟨[546, 547], none, false, [], none⟩
noncomputable def row523 : FRow := ⟨[], none, false, [], none⟩
noncomputable def row524 : FRow := ⟨[548], none, false, [], none⟩
noncomputable def row525 : FRow := ⟨[], none, true, [], none⟩
noncomputable def row526 : FRow := ⟨[549], none, false, [1], none⟩
noncomputable def row527 : FRow := ⟨[], none, false, [], none⟩
noncomputable def row528 : FRow := ⟨[87], none, false, [], none⟩
noncomputable def row529 : FRow := ⟨[267, 339, 264, 550, 263, 262, 173, 263], none, false, [], none⟩
noncomputable def row530 : FRow := ⟨[527, 551, 552], none, false, [], none⟩
noncomputable def row531 : FRow := ⟨[532], none, false, [], none⟩
noncomputable def row532 : FRow := ⟨[533, 41], none, false, [], none⟩
noncomputable def row533 : FRow := ⟨[63, 38], none, true, [], none⟩
noncomputable def row534 : FRow := ⟨[], none, false, [], none⟩
noncomputable def row535 : FRow := ⟨[], none, false, [], none⟩
noncomputable def row536 : FRow := ⟨[], none, false, [], none⟩
noncomputable def row537 : FRow := ⟨[], none, true, [], none⟩
noncomputable def row538 : FRow := ⟨[539], none, false, [], none⟩
noncomputable def row539 : FRow := ⟨[553, 553, 553], none, false, [], none⟩
noncomputable def row540 : FRow := ⟨[], none, false, [], none⟩
noncomputable def row541 : FRow := ⟨[337, 554, 555], none, false, [2], none⟩
noncomputable def row542 : FRow := ⟨[], none, false, [], none⟩
noncomputable def row543 : FRow := ⟨[556, 557], none, false, [], none⟩
noncomputable def row544 : FRow := ⟨[], none, false, [], none⟩
noncomputable def row545 : FRow := ⟨[], none, false, [], none⟩
noncomputable def row546 : FRow := ⟨[558, 559], none, false, [], none⟩
noncomputable def row547 : FRow := ⟨[560], none, false, [], none⟩
noncomputable def row548 : FRow := ⟨[], some Tryz.f548.name, false, [], none⟩
noncomputable def row549 : FRow := ⟨[561, 562], none, false, [], none⟩
noncomputable def row550 : FRow := ⟨[367, 440, 564, 563, 176], none, false, [], none⟩
noncomputable def row551 : FRow := ⟨[264], none, false, [], none⟩
noncomputable def row552 : FRow := ⟨[565], none, false, [], none⟩
noncomputable def row553 : FRow := ⟨[], none, true, [], none⟩
noncomputable def row554 : FRow := ⟨[], none, false, [], none⟩
noncomputable def row555 : FRow := ⟨[], none, false, [], none⟩
noncomputable def row556 : FRow := ⟨[], none, false, [], none⟩
noncomputable def row557 : FRow := ⟨[566, 567], none, false, [], none⟩
noncomputable def row558 : FRow := ⟨[], none, false, [], none⟩
noncomputable def row559 : FRow := ⟨[568], none, false, [], none⟩
noncomputable def row560 : FRow := ⟨[569, 570, 569, 571, 572], none, false, [], none⟩
noncomputable def row561 : FRow := ⟨[], none, false, [], none⟩
noncomputable def row562 : FRow := ⟨[], none, false, [], none⟩
noncomputable def row563 : FRow := ⟨[], none, true, [], none⟩
noncomputable def row564 : FRow := ⟨[173], none, false, [], none⟩
noncomputable def row565 : FRow := ⟨[573, 574], none, true, [], none⟩
noncomputable def row566 : FRow := ⟨[], none, false, [4], none⟩
noncomputable def row567 : FRow := ⟨[], none, false, [5], none⟩
noncomputable def row568 : FRow := ⟨[], none, false, [6, 7], none⟩
noncomputable def row569 : FRow := ⟨[575], none, false, [], none⟩
noncomputable def row570 : FRow := ⟨[], none, false, [], none⟩
noncomputable def row571 : FRow := ⟨[], none, false, [], none⟩
noncomputable def row572 : FRow := ⟨[], some Tryz.f572.name, false, [], entryReads.lookup Tryz.f572.name⟩
noncomputable def row573 : FRow := ⟨[], none, false, [], none⟩
noncomputable def row574 : FRow := ⟨[576, 262, 577, 578, 417, 530, 530, 579, 343, 414, 580, 530], none, true, [], none⟩
noncomputable def row575 : FRow := ⟨[581], none, false, [], none⟩
noncomputable def row576 : FRow := ⟨[267, 339, 582, 415, 416, 340, 342, 583, 264], none, true, [], none⟩
noncomputable def row577 : FRow := ⟨[585], none, false, [], none⟩
noncomputable def row578 : FRow := ⟨[267, 339, 343, 416, 578, 344, 578, 264], none, true, [], none⟩
noncomputable def row579 : FRow := ⟨[586, 587, 588, 589, 262, 186, 263, 590, 417], none, true, [], none⟩
noncomputable def row580 : FRow := ⟨[527, 264, 551, 591, 552], none, false, [], none⟩
noncomputable def row581 : FRow := ⟨[], some Tryz.f581.name, false, [], none⟩
noncomputable def row582 : FRow := ⟨[592, 264, 593], none, false, [], none⟩
noncomputable def row583 : FRow := ⟨[173, 263, 584], none, false, [], none⟩
noncomputable def row584 : FRow := ⟨[367, 226, 210, 173, 370], none, false, [], none⟩
noncomputable def row585 : FRow := ⟨[], none, true, [], none⟩
noncomputable def row586 : FRow := ⟨[576], none, true, [], none⟩
noncomputable def row587 : FRow := ⟨[262], none, false, [], none⟩
noncomputable def row588 : FRow := ⟨[530], none, false, [], none⟩
noncomputable def row589 : FRow := ⟨[], none, true, [], none⟩
noncomputable def row590 : FRow := ⟨[262, 183, 263], none, true, [], none⟩
noncomputable def row591 : FRow := ⟨[416, 528, 594], none, false, [], none⟩
noncomputable def row592 : FRow := ⟨[], none, false, [], none⟩
noncomputable def row593 : FRow := ⟨[173, 263], none, false, [], none⟩
noncomputable def row594 : FRow := ⟨[595, 342, 222, 287, 342], none, false, [], none⟩
noncomputable def row595 : FRow := ⟨[440, 225, 373], none, false, [], none⟩
noncomputable def row596 : FRow := ⟨[], some Tryz.f596.name, false, [], none⟩
noncomputable def row597 : FRow := ⟨[], some Tryz.f597.name, false, [], none⟩
noncomputable def row598 : FRow := ⟨[], some Tryz.f598.name, false, [], none⟩
noncomputable def row599 : FRow := ⟨[], some Tryz.f599.name, false, [], none⟩
noncomputable def row600 : FRow := ⟨[], some Tryz.f600.name, false, [], none⟩
noncomputable def row601 : FRow := ⟨[], some Tryz.f601.name, false, [], none⟩
noncomputable def row602 : FRow := ⟨[], some Tryz.f602.name, false, [], none⟩
noncomputable def row603 : FRow := ⟨[], some Tryz.f603.name, false, [], none⟩
noncomputable def row604 : FRow := ⟨[], some Tryz.f604.name, false, [], none⟩
noncomputable def row605 : FRow := ⟨[], some Tryz.f605.name, false, [], none⟩
noncomputable def row606 : FRow := ⟨[], some Tryz.f606.name, false, [], none⟩
noncomputable def row607 : FRow := ⟨[], some Tryz.f607.name, false, [], none⟩
noncomputable def row608 : FRow := ⟨[], some Tryz.f608.name, false, [], none⟩
noncomputable def row609 : FRow := ⟨[], some Tryz.f609.name, false, [], none⟩
noncomputable def row610 : FRow := ⟨[], some Tryz.f610.name, false, [], none⟩
noncomputable def row611 : FRow := ⟨[], some Tryz.f611.name, false, [], none⟩
noncomputable def row612 : FRow := ⟨[425, 424, 38, 432], none, false, [], none⟩
noncomputable def row613 : FRow := ⟨[], some Tryz.f613.name, false, [], none⟩
noncomputable def row614 : FRow := ⟨[], some Tryz.f614.name, false, [], none⟩
noncomputable def row615 : FRow := ⟨[424, 38], none, false, [], none⟩
noncomputable def row616 : FRow := ⟨[38], none, false, [], none⟩
noncomputable def row617 : FRow := ⟨[424, 38], none, false, [], none⟩
noncomputable def row618 : FRow := ⟨[], some Tryz.f618.name, false, [], none⟩
noncomputable def row619 : FRow := ⟨[], some Tryz.f619.name, false, [], none⟩
noncomputable def row620 : FRow := ⟨[], some Tryz.f620.name, false, [], none⟩
noncomputable def row621 : FRow := ⟨[], some Tryz.f621.name, false, [], none⟩
noncomputable def row622 : FRow := ⟨[], some Tryz.f622.name, false, [], none⟩
noncomputable def row623 : FRow := ⟨[], some Tryz.f623.name, false, [], none⟩
noncomputable def row624 : FRow := ⟨[], some Tryz.f624.name, false, [], none⟩
noncomputable def row625 : FRow := ⟨[], some Tryz.f625.name, false, [], none⟩
noncomputable def row626 : FRow := ⟨[], some Tryz.f626.name, false, [], none⟩
noncomputable def row627 : FRow := ⟨[], some Tryz.f627.name, false, [], none⟩
noncomputable def row628 : FRow := ⟨[], some Tryz.f628.name, false, [], none⟩
noncomputable def row629 : FRow := ⟨[], some Tryz.f629.name, false, [], none⟩
noncomputable def row630 : FRow := ⟨[], some Tryz.f630.name, false, [], none⟩
noncomputable def row631 : FRow := ⟨[], none, false, [4, 5, 2, 7, 8, 8, 1, 0], none⟩
theorem at0 : ∀ y, some row0 = some y → RowAt Pos.H y := row_at rfl Tryz.func0 (by kernel_rfl) (by kernel_rfl)
theorem at1 : ∀ y, some row1 = some y → RowAt (.O Pos.H) y := row_at rfl Tryz.func1 (by kernel_rfl) (by kernel_rfl)
theorem at2 : ∀ y, some row2 = some y → RowAt (.I Pos.H) y := row_at rfl Tryz.func2 (by kernel_rfl) (by kernel_rfl)
theorem at3 : ∀ y, some row3 = some y → RowAt (.O (.O Pos.H)) y := row_at rfl Tryz.func3 (by kernel_rfl) (by kernel_rfl)
theorem at4 : ∀ y, some row4 = some y → RowAt (.I (.O Pos.H)) y := row_at rfl Tryz.func4 (by kernel_rfl) (by kernel_rfl)
theorem at5 : ∀ y, some row5 = some y → RowAt (.O (.I Pos.H)) y := row_at rfl Tryz.func5 (by kernel_rfl) (by kernel_rfl)
theorem at6 : ∀ y, some row6 = some y → RowAt (.I (.I Pos.H)) y := row_at rfl Tryz.func6 (by kernel_rfl) (by kernel_rfl)
theorem at7 : ∀ y, some row7 = some y → RowAt (.O (.O (.O Pos.H))) y := row_at rfl Tryz.func7 (by kernel_rfl) (by kernel_rfl)
theorem at8 : ∀ y, some row8 = some y → RowAt (.I (.O (.O Pos.H))) y := row_at rfl Tryz.func8 (by kernel_rfl) (by kernel_rfl)
theorem at9 : ∀ y, some row9 = some y → RowAt (.O (.I (.O Pos.H))) y := row_at rfl Tryz.func9 (by kernel_rfl) (by kernel_rfl)
theorem at10 : ∀ y, some row10 = some y → RowAt (.I (.I (.O Pos.H))) y := row_at rfl Tryz.func10 (by kernel_rfl) (by kernel_rfl)
theorem at11 : ∀ y, some row11 = some y → RowAt (.O (.O (.I Pos.H))) y := row_at rfl Tryz.func11 (by kernel_rfl) (by kernel_rfl)
theorem at12 : ∀ y, some row12 = some y → RowAt (.I (.O (.I Pos.H))) y := row_at rfl Tryz.func12 (by kernel_rfl) (by kernel_rfl)
theorem at13 : ∀ y, some row13 = some y → RowAt (.O (.I (.I Pos.H))) y := row_at rfl Tryz.func13 (by kernel_rfl) (by kernel_rfl)
theorem at14 : ∀ y, some row14 = some y → RowAt (.I (.I (.I Pos.H))) y := row_at rfl Tryz.func14 (by kernel_rfl) (by kernel_rfl)
theorem at15 : ∀ y, some row15 = some y → RowAt (.O (.O (.O (.O Pos.H)))) y := row_at rfl Tryz.func15 (by kernel_rfl) (by kernel_rfl)
theorem at16 : ∀ y, some row16 = some y → RowAt (.I (.O (.O (.O Pos.H)))) y := row_at rfl Tryz.func16 (by kernel_rfl) (by kernel_rfl)
theorem at17 : ∀ y, some row17 = some y → RowAt (.O (.I (.O (.O Pos.H)))) y := row_at rfl Tryz.func17 (by kernel_rfl) (by kernel_rfl)
theorem at18 : ∀ y, some row18 = some y → RowAt (.I (.I (.O (.O Pos.H)))) y := row_at rfl Tryz.func18 (by kernel_rfl) (by kernel_rfl)
theorem at19 : ∀ y, some row19 = some y → RowAt (.O (.O (.I (.O Pos.H)))) y := row_at rfl Tryz.func19 (by kernel_rfl) (by kernel_rfl)
theorem at20 : ∀ y, some row20 = some y → RowAt (.I (.O (.I (.O Pos.H)))) y := row_at rfl Tryz.func20 (by kernel_rfl) (by kernel_rfl)
theorem at21 : ∀ y, some row21 = some y → RowAt (.O (.I (.I (.O Pos.H)))) y := row_at rfl Tryz.func21 (by kernel_rfl) (by kernel_rfl)
theorem at22 : ∀ y, some row22 = some y → RowAt (.I (.I (.I (.O Pos.H)))) y := row_at rfl Tryz.func22 (by kernel_rfl) (by kernel_rfl)
theorem at23 : ∀ y, some row23 = some y → RowAt (.O (.O (.O (.I Pos.H)))) y := row_at rfl Tryz.func23 (by kernel_rfl) (by kernel_rfl)
theorem at24 : ∀ y, some row24 = some y → RowAt (.I (.O (.O (.I Pos.H)))) y := row_at rfl Tryz.func24 (by kernel_rfl) (by kernel_rfl)
theorem at25 : ∀ y, some row25 = some y → RowAt (.O (.I (.O (.I Pos.H)))) y := row_at rfl Tryz.func25 (by kernel_rfl) (by kernel_rfl)
theorem at26 : ∀ y, some row26 = some y → RowAt (.I (.I (.O (.I Pos.H)))) y := row_at rfl Tryz.func26 (by kernel_rfl) (by kernel_rfl)
theorem at27 : ∀ y, some row27 = some y → RowAt (.O (.O (.I (.I Pos.H)))) y := row_at rfl Tryz.func27 (by kernel_rfl) (by kernel_rfl)
theorem at28 : ∀ y, some row28 = some y → RowAt (.I (.O (.I (.I Pos.H)))) y := row_at rfl Tryz.func28 (by kernel_rfl) (by kernel_rfl)
theorem at29 : ∀ y, some row29 = some y → RowAt (.O (.I (.I (.I Pos.H)))) y := row_at rfl Tryz.func29 (by kernel_rfl) (by kernel_rfl)
theorem at30 : ∀ y, some row30 = some y → RowAt (.I (.I (.I (.I Pos.H)))) y := row_at rfl Tryz.func30 (by kernel_rfl) (by kernel_rfl)
theorem at31 : ∀ y, some row31 = some y → RowAt (.O (.O (.O (.O (.O Pos.H))))) y := row_at rfl Tryz.func31 (by kernel_rfl) (by kernel_rfl)
theorem at32 : ∀ y, some row32 = some y → RowAt (.I (.O (.O (.O (.O Pos.H))))) y := row_at rfl Tryz.func32 (by kernel_rfl) (by kernel_rfl)
theorem at33 : ∀ y, some row33 = some y → RowAt (.O (.I (.O (.O (.O Pos.H))))) y := row_at rfl Tryz.func33 (by kernel_rfl) (by kernel_rfl)
theorem at34 : ∀ y, some row34 = some y → RowAt (.I (.I (.O (.O (.O Pos.H))))) y := row_at rfl Tryz.func34 (by kernel_rfl) (by kernel_rfl)
theorem at35 : ∀ y, some row35 = some y → RowAt (.O (.O (.I (.O (.O Pos.H))))) y := row_at rfl Tryz.func35 (by kernel_rfl) (by kernel_rfl)
theorem at36 : ∀ y, some row36 = some y → RowAt (.I (.O (.I (.O (.O Pos.H))))) y := row_at rfl Tryz.func36 (by kernel_rfl) (by kernel_rfl)
theorem at37 : ∀ y, some row37 = some y → RowAt (.O (.I (.I (.O (.O Pos.H))))) y := row_at rfl Tryz.func37 (by kernel_rfl) (by kernel_rfl)
theorem at38 : ∀ y, some row38 = some y → RowAt (.I (.I (.I (.O (.O Pos.H))))) y := row_at rfl Tryz.func38 (by kernel_rfl) (by kernel_rfl)
theorem at39 : ∀ y, some row39 = some y → RowAt (.O (.O (.O (.I (.O Pos.H))))) y := row_at rfl Tryz.func39 (by kernel_rfl) (by kernel_rfl)
theorem at40 : ∀ y, some row40 = some y → RowAt (.I (.O (.O (.I (.O Pos.H))))) y := row_at rfl Tryz.func40 (by kernel_rfl) (by kernel_rfl)
theorem at41 : ∀ y, some row41 = some y → RowAt (.O (.I (.O (.I (.O Pos.H))))) y := row_at rfl Tryz.func41 (by kernel_rfl) (by kernel_rfl)
theorem at42 : ∀ y, some row42 = some y → RowAt (.I (.I (.O (.I (.O Pos.H))))) y := row_at rfl Tryz.func42 (by kernel_rfl) (by kernel_rfl)
theorem at43 : ∀ y, some row43 = some y → RowAt (.O (.O (.I (.I (.O Pos.H))))) y := row_at rfl Tryz.func43 (by kernel_rfl) (by kernel_rfl)
theorem at44 : ∀ y, some row44 = some y → RowAt (.I (.O (.I (.I (.O Pos.H))))) y := row_at rfl Tryz.func44 (by kernel_rfl) (by kernel_rfl)
theorem at45 : ∀ y, some row45 = some y → RowAt (.O (.I (.I (.I (.O Pos.H))))) y := row_at rfl Tryz.func45 (by kernel_rfl) (by kernel_rfl)
theorem at46 : ∀ y, some row46 = some y → RowAt (.I (.I (.I (.I (.O Pos.H))))) y := row_at rfl Tryz.func46 (by kernel_rfl) (by kernel_rfl)
theorem at47 : ∀ y, some row47 = some y → RowAt (.O (.O (.O (.O (.I Pos.H))))) y := row_at rfl Tryz.func47 (by kernel_rfl) (by kernel_rfl)
theorem at48 : ∀ y, some row48 = some y → RowAt (.I (.O (.O (.O (.I Pos.H))))) y := row_at rfl Tryz.func48 (by kernel_rfl) (by kernel_rfl)
theorem at49 : ∀ y, some row49 = some y → RowAt (.O (.I (.O (.O (.I Pos.H))))) y := row_at rfl Tryz.func49 (by kernel_rfl) (by kernel_rfl)
theorem at50 : ∀ y, some row50 = some y → RowAt (.I (.I (.O (.O (.I Pos.H))))) y := row_at rfl Tryz.func50 (by kernel_rfl) (by kernel_rfl)
theorem at51 : ∀ y, some row51 = some y → RowAt (.O (.O (.I (.O (.I Pos.H))))) y := row_at rfl Tryz.func51 (by kernel_rfl) (by kernel_rfl)
theorem at52 : ∀ y, some row52 = some y → RowAt (.I (.O (.I (.O (.I Pos.H))))) y := row_at rfl Tryz.func52 (by kernel_rfl) (by kernel_rfl)
theorem at53 : ∀ y, some row53 = some y → RowAt (.O (.I (.I (.O (.I Pos.H))))) y := row_at rfl Tryz.func53 (by kernel_rfl) (by kernel_rfl)
theorem at54 : ∀ y, some row54 = some y → RowAt (.I (.I (.I (.O (.I Pos.H))))) y := row_at rfl Tryz.func54 (by kernel_rfl) (by kernel_rfl)
theorem at55 : ∀ y, some row55 = some y → RowAt (.O (.O (.O (.I (.I Pos.H))))) y := row_at rfl Tryz.func55 (by kernel_rfl) (by kernel_rfl)
theorem at56 : ∀ y, some row56 = some y → RowAt (.I (.O (.O (.I (.I Pos.H))))) y := row_at rfl Tryz.func56 (by kernel_rfl) (by kernel_rfl)
theorem at57 : ∀ y, some row57 = some y → RowAt (.O (.I (.O (.I (.I Pos.H))))) y := row_at rfl Tryz.func57 (by kernel_rfl) (by kernel_rfl)
theorem at58 : ∀ y, some row58 = some y → RowAt (.I (.I (.O (.I (.I Pos.H))))) y := row_at rfl Tryz.func58 (by kernel_rfl) (by kernel_rfl)
theorem at59 : ∀ y, some row59 = some y → RowAt (.O (.O (.I (.I (.I Pos.H))))) y := row_at rfl Tryz.func59 (by kernel_rfl) (by kernel_rfl)
theorem at60 : ∀ y, some row60 = some y → RowAt (.I (.O (.I (.I (.I Pos.H))))) y := row_at rfl Tryz.func60 (by kernel_rfl) (by kernel_rfl)
theorem at61 : ∀ y, some row61 = some y → RowAt (.O (.I (.I (.I (.I Pos.H))))) y := row_at rfl Tryz.func61 (by kernel_rfl) (by kernel_rfl)
theorem at62 : ∀ y, some row62 = some y → RowAt (.I (.I (.I (.I (.I Pos.H))))) y := row_at rfl Tryz.func62 (by kernel_rfl) (by kernel_rfl)
theorem at63 : ∀ y, some row63 = some y → RowAt (.O (.O (.O (.O (.O (.O Pos.H)))))) y := row_at rfl Tryz.func63 (by kernel_rfl) (by kernel_rfl)
theorem at64 : ∀ y, some row64 = some y → RowAt (.I (.O (.O (.O (.O (.O Pos.H)))))) y := row_at rfl Tryz.func64 (by kernel_rfl) (by kernel_rfl)
theorem at65 : ∀ y, some row65 = some y → RowAt (.O (.I (.O (.O (.O (.O Pos.H)))))) y := row_at rfl Tryz.func65 (by kernel_rfl) (by kernel_rfl)
theorem at66 : ∀ y, some row66 = some y → RowAt (.I (.I (.O (.O (.O (.O Pos.H)))))) y := row_at rfl Tryz.func66 (by kernel_rfl) (by kernel_rfl)
theorem at67 : ∀ y, some row67 = some y → RowAt (.O (.O (.I (.O (.O (.O Pos.H)))))) y := row_at rfl Tryz.func67 (by kernel_rfl) (by kernel_rfl)
theorem at68 : ∀ y, some row68 = some y → RowAt (.I (.O (.I (.O (.O (.O Pos.H)))))) y := row_at rfl Tryz.func68 (by kernel_rfl) (by kernel_rfl)
theorem at69 : ∀ y, some row69 = some y → RowAt (.O (.I (.I (.O (.O (.O Pos.H)))))) y := row_at rfl Tryz.func69 (by kernel_rfl) (by kernel_rfl)
theorem at70 : ∀ y, some row70 = some y → RowAt (.I (.I (.I (.O (.O (.O Pos.H)))))) y := row_at rfl Tryz.func70 (by kernel_rfl) (by kernel_rfl)
theorem at71 : ∀ y, some row71 = some y → RowAt (.O (.O (.O (.I (.O (.O Pos.H)))))) y := row_at rfl Tryz.func71 (by kernel_rfl) (by kernel_rfl)
theorem at72 : ∀ y, some row72 = some y → RowAt (.I (.O (.O (.I (.O (.O Pos.H)))))) y := row_at rfl Tryz.func72 (by kernel_rfl) (by kernel_rfl)
theorem at73 : ∀ y, some row73 = some y → RowAt (.O (.I (.O (.I (.O (.O Pos.H)))))) y := row_at rfl Tryz.func73 (by kernel_rfl) (by kernel_rfl)
theorem at74 : ∀ y, some row74 = some y → RowAt (.I (.I (.O (.I (.O (.O Pos.H)))))) y := row_at rfl Tryz.func74 (by kernel_rfl) (by kernel_rfl)
theorem at75 : ∀ y, some row75 = some y → RowAt (.O (.O (.I (.I (.O (.O Pos.H)))))) y := row_at rfl Tryz.func75 (by kernel_rfl) (by kernel_rfl)
theorem at76 : ∀ y, some row76 = some y → RowAt (.I (.O (.I (.I (.O (.O Pos.H)))))) y := row_at rfl Tryz.func76 (by kernel_rfl) (by kernel_rfl)
theorem at77 : ∀ y, some row77 = some y → RowAt (.O (.I (.I (.I (.O (.O Pos.H)))))) y := row_at rfl Tryz.func77 (by kernel_rfl) (by kernel_rfl)
theorem at78 : ∀ y, some row78 = some y → RowAt (.I (.I (.I (.I (.O (.O Pos.H)))))) y := row_at rfl Tryz.func78 (by kernel_rfl) (by kernel_rfl)
theorem at79 : ∀ y, some row79 = some y → RowAt (.O (.O (.O (.O (.I (.O Pos.H)))))) y := row_at rfl Tryz.func79 (by kernel_rfl) (by kernel_rfl)
theorem at80 : ∀ y, some row80 = some y → RowAt (.I (.O (.O (.O (.I (.O Pos.H)))))) y := row_at rfl Tryz.func80 (by kernel_rfl) (by kernel_rfl)
theorem at81 : ∀ y, some row81 = some y → RowAt (.O (.I (.O (.O (.I (.O Pos.H)))))) y := row_at rfl Tryz.func81 (by kernel_rfl) (by kernel_rfl)
theorem at82 : ∀ y, some row82 = some y → RowAt (.I (.I (.O (.O (.I (.O Pos.H)))))) y := row_at rfl Tryz.func82 (by kernel_rfl) (by kernel_rfl)
theorem at83 : ∀ y, some row83 = some y → RowAt (.O (.O (.I (.O (.I (.O Pos.H)))))) y := row_at rfl Tryz.func83 (by kernel_rfl) (by kernel_rfl)
theorem at84 : ∀ y, some row84 = some y → RowAt (.I (.O (.I (.O (.I (.O Pos.H)))))) y := row_at rfl Tryz.func84 (by kernel_rfl) (by kernel_rfl)
theorem at85 : ∀ y, some row85 = some y → RowAt (.O (.I (.I (.O (.I (.O Pos.H)))))) y := row_at rfl Tryz.func85 (by kernel_rfl) (by kernel_rfl)
theorem at86 : ∀ y, some row86 = some y → RowAt (.I (.I (.I (.O (.I (.O Pos.H)))))) y := row_at rfl Tryz.func86 (by kernel_rfl) (by kernel_rfl)
theorem at87 : ∀ y, some row87 = some y → RowAt (.O (.O (.O (.I (.I (.O Pos.H)))))) y := row_at rfl Tryz.func87 (by kernel_rfl) (by kernel_rfl)
theorem at88 : ∀ y, some row88 = some y → RowAt (.I (.O (.O (.I (.I (.O Pos.H)))))) y := row_at rfl Tryz.func88 (by kernel_rfl) (by kernel_rfl)
theorem at89 : ∀ y, some row89 = some y → RowAt (.O (.I (.O (.I (.I (.O Pos.H)))))) y := row_at rfl Tryz.func89 (by kernel_rfl) (by kernel_rfl)
theorem at90 : ∀ y, some row90 = some y → RowAt (.I (.I (.O (.I (.I (.O Pos.H)))))) y := row_at rfl Tryz.func90 (by kernel_rfl) (by kernel_rfl)
theorem at91 : ∀ y, some row91 = some y → RowAt (.O (.O (.I (.I (.I (.O Pos.H)))))) y := row_at rfl Tryz.func91 (by kernel_rfl) (by kernel_rfl)
theorem at92 : ∀ y, some row92 = some y → RowAt (.I (.O (.I (.I (.I (.O Pos.H)))))) y := row_at rfl Tryz.func92 (by kernel_rfl) (by kernel_rfl)
theorem at93 : ∀ y, some row93 = some y → RowAt (.O (.I (.I (.I (.I (.O Pos.H)))))) y := row_at rfl Tryz.func93 (by kernel_rfl) (by kernel_rfl)
theorem at94 : ∀ y, some row94 = some y → RowAt (.I (.I (.I (.I (.I (.O Pos.H)))))) y := row_at rfl Tryz.func94 (by kernel_rfl) (by kernel_rfl)
theorem at95 : ∀ y, some row95 = some y → RowAt (.O (.O (.O (.O (.O (.I Pos.H)))))) y := row_at rfl Tryz.func95 (by kernel_rfl) (by kernel_rfl)
theorem at96 : ∀ y, some row96 = some y → RowAt (.I (.O (.O (.O (.O (.I Pos.H)))))) y := row_at rfl Tryz.func96 (by kernel_rfl) (by kernel_rfl)
theorem at97 : ∀ y, some row97 = some y → RowAt (.O (.I (.O (.O (.O (.I Pos.H)))))) y := row_at rfl Tryz.func97 (by kernel_rfl) (by kernel_rfl)
theorem at98 : ∀ y, some row98 = some y → RowAt (.I (.I (.O (.O (.O (.I Pos.H)))))) y := row_at rfl Tryz.func98 (by kernel_rfl) (by kernel_rfl)
theorem at99 : ∀ y, some row99 = some y → RowAt (.O (.O (.I (.O (.O (.I Pos.H)))))) y := row_at rfl Tryz.func99 (by kernel_rfl) (by kernel_rfl)
theorem at100 : ∀ y, some row100 = some y → RowAt (.I (.O (.I (.O (.O (.I Pos.H)))))) y := row_at rfl Tryz.func100 (by kernel_rfl) (by kernel_rfl)
theorem at101 : ∀ y, some row101 = some y → RowAt (.O (.I (.I (.O (.O (.I Pos.H)))))) y := row_at rfl Tryz.func101 (by kernel_rfl) (by kernel_rfl)
theorem at102 : ∀ y, some row102 = some y → RowAt (.I (.I (.I (.O (.O (.I Pos.H)))))) y := row_at rfl Tryz.func102 (by kernel_rfl) (by kernel_rfl)
theorem at103 : ∀ y, some row103 = some y → RowAt (.O (.O (.O (.I (.O (.I Pos.H)))))) y := row_at rfl Tryz.func103 (by kernel_rfl) (by kernel_rfl)
theorem at104 : ∀ y, some row104 = some y → RowAt (.I (.O (.O (.I (.O (.I Pos.H)))))) y := row_at rfl Tryz.func104 (by kernel_rfl) (by kernel_rfl)
theorem at105 : ∀ y, some row105 = some y → RowAt (.O (.I (.O (.I (.O (.I Pos.H)))))) y := row_at rfl Tryz.func105 (by kernel_rfl) (by kernel_rfl)
theorem at106 : ∀ y, some row106 = some y → RowAt (.I (.I (.O (.I (.O (.I Pos.H)))))) y := row_at rfl Tryz.func106 (by kernel_rfl) (by kernel_rfl)
theorem at107 : ∀ y, some row107 = some y → RowAt (.O (.O (.I (.I (.O (.I Pos.H)))))) y := row_at rfl Tryz.func107 (by kernel_rfl) (by kernel_rfl)
theorem at108 : ∀ y, some row108 = some y → RowAt (.I (.O (.I (.I (.O (.I Pos.H)))))) y := row_at rfl Tryz.func108 (by kernel_rfl) (by kernel_rfl)
theorem at109 : ∀ y, some row109 = some y → RowAt (.O (.I (.I (.I (.O (.I Pos.H)))))) y := row_at rfl Tryz.func109 (by kernel_rfl) (by kernel_rfl)
theorem at110 : ∀ y, some row110 = some y → RowAt (.I (.I (.I (.I (.O (.I Pos.H)))))) y := row_at rfl Tryz.func110 (by kernel_rfl) (by kernel_rfl)
theorem at111 : ∀ y, some row111 = some y → RowAt (.O (.O (.O (.O (.I (.I Pos.H)))))) y := row_at rfl Tryz.func111 (by kernel_rfl) (by kernel_rfl)
theorem at112 : ∀ y, some row112 = some y → RowAt (.I (.O (.O (.O (.I (.I Pos.H)))))) y := row_at rfl Tryz.func112 (by kernel_rfl) (by kernel_rfl)
theorem at113 : ∀ y, some row113 = some y → RowAt (.O (.I (.O (.O (.I (.I Pos.H)))))) y := row_at rfl Tryz.func113 (by kernel_rfl) (by kernel_rfl)
theorem at114 : ∀ y, some row114 = some y → RowAt (.I (.I (.O (.O (.I (.I Pos.H)))))) y := row_at rfl Tryz.func114 (by kernel_rfl) (by kernel_rfl)
theorem at115 : ∀ y, some row115 = some y → RowAt (.O (.O (.I (.O (.I (.I Pos.H)))))) y := row_at rfl Tryz.func115 (by kernel_rfl) (by kernel_rfl)
theorem at116 : ∀ y, some row116 = some y → RowAt (.I (.O (.I (.O (.I (.I Pos.H)))))) y := row_at rfl Tryz.func116 (by kernel_rfl) (by kernel_rfl)
theorem at117 : ∀ y, some row117 = some y → RowAt (.O (.I (.I (.O (.I (.I Pos.H)))))) y := row_at rfl Tryz.func117 (by kernel_rfl) (by kernel_rfl)
theorem at118 : ∀ y, some row118 = some y → RowAt (.I (.I (.I (.O (.I (.I Pos.H)))))) y := row_at rfl Tryz.func118 (by kernel_rfl) (by kernel_rfl)
theorem at119 : ∀ y, some row119 = some y → RowAt (.O (.O (.O (.I (.I (.I Pos.H)))))) y := row_at rfl Tryz.func119 (by kernel_rfl) (by kernel_rfl)
theorem at120 : ∀ y, some row120 = some y → RowAt (.I (.O (.O (.I (.I (.I Pos.H)))))) y := row_at rfl Tryz.func120 (by kernel_rfl) (by kernel_rfl)
theorem at121 : ∀ y, some row121 = some y → RowAt (.O (.I (.O (.I (.I (.I Pos.H)))))) y := row_at rfl Tryz.func121 (by kernel_rfl) (by kernel_rfl)
theorem at122 : ∀ y, some row122 = some y → RowAt (.I (.I (.O (.I (.I (.I Pos.H)))))) y := row_at rfl Tryz.func122 (by kernel_rfl) (by kernel_rfl)
theorem at123 : ∀ y, some row123 = some y → RowAt (.O (.O (.I (.I (.I (.I Pos.H)))))) y := row_at rfl Tryz.func123 (by kernel_rfl) (by kernel_rfl)
theorem at124 : ∀ y, some row124 = some y → RowAt (.I (.O (.I (.I (.I (.I Pos.H)))))) y := row_at rfl Tryz.func124 (by kernel_rfl) (by kernel_rfl)
theorem at125 : ∀ y, some row125 = some y → RowAt (.O (.I (.I (.I (.I (.I Pos.H)))))) y := row_at rfl Tryz.func125 (by kernel_rfl) (by kernel_rfl)
theorem at126 : ∀ y, some row126 = some y → RowAt (.I (.I (.I (.I (.I (.I Pos.H)))))) y := row_at rfl Tryz.func126 (by kernel_rfl) (by kernel_rfl)
theorem at127 : ∀ y, some row127 = some y → RowAt (.O (.O (.O (.O (.O (.O (.O Pos.H))))))) y := row_at rfl Tryz.func127 (by kernel_rfl) (by kernel_rfl)
theorem at128 : ∀ y, some row128 = some y → RowAt (.I (.O (.O (.O (.O (.O (.O Pos.H))))))) y := row_at rfl Tryz.func128 (by kernel_rfl) (by kernel_rfl)
theorem at129 : ∀ y, some row129 = some y → RowAt (.O (.I (.O (.O (.O (.O (.O Pos.H))))))) y := row_at rfl Tryz.func129 (by kernel_rfl) (by kernel_rfl)
theorem at130 : ∀ y, some row130 = some y → RowAt (.I (.I (.O (.O (.O (.O (.O Pos.H))))))) y := row_at rfl Tryz.func130 (by kernel_rfl) (by kernel_rfl)
theorem at131 : ∀ y, some row131 = some y → RowAt (.O (.O (.I (.O (.O (.O (.O Pos.H))))))) y := row_at rfl Tryz.func131 (by kernel_rfl) (by kernel_rfl)
theorem at132 : ∀ y, some row132 = some y → RowAt (.I (.O (.I (.O (.O (.O (.O Pos.H))))))) y := row_at rfl Tryz.func132 (by kernel_rfl) (by kernel_rfl)
theorem at133 : ∀ y, some row133 = some y → RowAt (.O (.I (.I (.O (.O (.O (.O Pos.H))))))) y := row_at rfl Tryz.func133 (by kernel_rfl) (by kernel_rfl)
theorem at134 : ∀ y, some row134 = some y → RowAt (.I (.I (.I (.O (.O (.O (.O Pos.H))))))) y := row_at rfl Tryz.func134 (by kernel_rfl) (by kernel_rfl)
theorem at135 : ∀ y, some row135 = some y → RowAt (.O (.O (.O (.I (.O (.O (.O Pos.H))))))) y := row_at rfl Tryz.func135 (by kernel_rfl) (by kernel_rfl)
theorem at136 : ∀ y, some row136 = some y → RowAt (.I (.O (.O (.I (.O (.O (.O Pos.H))))))) y := row_at rfl Tryz.func136 (by kernel_rfl) (by kernel_rfl)
theorem at137 : ∀ y, some row137 = some y → RowAt (.O (.I (.O (.I (.O (.O (.O Pos.H))))))) y := row_at rfl Tryz.func137 (by kernel_rfl) (by kernel_rfl)
theorem at138 : ∀ y, some row138 = some y → RowAt (.I (.I (.O (.I (.O (.O (.O Pos.H))))))) y := row_at rfl Tryz.func138 (by kernel_rfl) (by kernel_rfl)
theorem at139 : ∀ y, some row139 = some y → RowAt (.O (.O (.I (.I (.O (.O (.O Pos.H))))))) y := row_at rfl Tryz.func139 (by kernel_rfl) (by kernel_rfl)
theorem at140 : ∀ y, some row140 = some y → RowAt (.I (.O (.I (.I (.O (.O (.O Pos.H))))))) y := row_at rfl Tryz.func140 (by kernel_rfl) (by kernel_rfl)
theorem at141 : ∀ y, some row141 = some y → RowAt (.O (.I (.I (.I (.O (.O (.O Pos.H))))))) y := row_at rfl Tryz.func141 (by kernel_rfl) (by kernel_rfl)
theorem at142 : ∀ y, some row142 = some y → RowAt (.I (.I (.I (.I (.O (.O (.O Pos.H))))))) y := row_at rfl Tryz.func142 (by kernel_rfl) (by kernel_rfl)
theorem at143 : ∀ y, some row143 = some y → RowAt (.O (.O (.O (.O (.I (.O (.O Pos.H))))))) y := row_at rfl Tryz.func143 (by kernel_rfl) (by kernel_rfl)
theorem at144 : ∀ y, some row144 = some y → RowAt (.I (.O (.O (.O (.I (.O (.O Pos.H))))))) y := row_at rfl Tryz.func144 (by kernel_rfl) (by kernel_rfl)
theorem at145 : ∀ y, some row145 = some y → RowAt (.O (.I (.O (.O (.I (.O (.O Pos.H))))))) y := row_at rfl Tryz.func145 (by kernel_rfl) (by kernel_rfl)
theorem at146 : ∀ y, some row146 = some y → RowAt (.I (.I (.O (.O (.I (.O (.O Pos.H))))))) y := row_at rfl Tryz.func146 (by kernel_rfl) (by kernel_rfl)
theorem at147 : ∀ y, some row147 = some y → RowAt (.O (.O (.I (.O (.I (.O (.O Pos.H))))))) y := row_at rfl Tryz.func147 (by kernel_rfl) (by kernel_rfl)
theorem at148 : ∀ y, some row148 = some y → RowAt (.I (.O (.I (.O (.I (.O (.O Pos.H))))))) y := row_at rfl Tryz.func148 (by kernel_rfl) (by kernel_rfl)
theorem at149 : ∀ y, some row149 = some y → RowAt (.O (.I (.I (.O (.I (.O (.O Pos.H))))))) y := row_at rfl Tryz.func149 (by kernel_rfl) (by kernel_rfl)
theorem at150 : ∀ y, some row150 = some y → RowAt (.I (.I (.I (.O (.I (.O (.O Pos.H))))))) y := row_at rfl Tryz.func150 (by kernel_rfl) (by kernel_rfl)
theorem at151 : ∀ y, some row151 = some y → RowAt (.O (.O (.O (.I (.I (.O (.O Pos.H))))))) y := row_at rfl Tryz.func151 (by kernel_rfl) (by kernel_rfl)
theorem at152 : ∀ y, some row152 = some y → RowAt (.I (.O (.O (.I (.I (.O (.O Pos.H))))))) y := row_at rfl Tryz.func152 (by kernel_rfl) (by kernel_rfl)
theorem at153 : ∀ y, some row153 = some y → RowAt (.O (.I (.O (.I (.I (.O (.O Pos.H))))))) y := row_at rfl Tryz.func153 (by kernel_rfl) (by kernel_rfl)
theorem at154 : ∀ y, some row154 = some y → RowAt (.I (.I (.O (.I (.I (.O (.O Pos.H))))))) y := row_at rfl Tryz.func154 (by kernel_rfl) (by kernel_rfl)
theorem at155 : ∀ y, some row155 = some y → RowAt (.O (.O (.I (.I (.I (.O (.O Pos.H))))))) y := row_at rfl Tryz.func155 (by kernel_rfl) (by kernel_rfl)
theorem at156 : ∀ y, some row156 = some y → RowAt (.I (.O (.I (.I (.I (.O (.O Pos.H))))))) y := row_at rfl Tryz.func156 (by kernel_rfl) (by kernel_rfl)
theorem at157 : ∀ y, some row157 = some y → RowAt (.O (.I (.I (.I (.I (.O (.O Pos.H))))))) y := row_at rfl Tryz.func157 (by kernel_rfl) (by kernel_rfl)
theorem at158 : ∀ y, some row158 = some y → RowAt (.I (.I (.I (.I (.I (.O (.O Pos.H))))))) y := row_at rfl Tryz.func158 (by kernel_rfl) (by kernel_rfl)
theorem at159 : ∀ y, some row159 = some y → RowAt (.O (.O (.O (.O (.O (.I (.O Pos.H))))))) y := row_at rfl Tryz.func159 (by kernel_rfl) (by kernel_rfl)
theorem at160 : ∀ y, some row160 = some y → RowAt (.I (.O (.O (.O (.O (.I (.O Pos.H))))))) y := row_at rfl Tryz.func160 (by kernel_rfl) (by kernel_rfl)
theorem at161 : ∀ y, some row161 = some y → RowAt (.O (.I (.O (.O (.O (.I (.O Pos.H))))))) y := row_at rfl Tryz.func161 (by kernel_rfl) (by kernel_rfl)
theorem at162 : ∀ y, some row162 = some y → RowAt (.I (.I (.O (.O (.O (.I (.O Pos.H))))))) y := row_at rfl Tryz.func162 (by kernel_rfl) (by kernel_rfl)
theorem at163 : ∀ y, some row163 = some y → RowAt (.O (.O (.I (.O (.O (.I (.O Pos.H))))))) y := row_at rfl Tryz.func163 (by kernel_rfl) (by kernel_rfl)
theorem at164 : ∀ y, some row164 = some y → RowAt (.I (.O (.I (.O (.O (.I (.O Pos.H))))))) y := row_at rfl Tryz.func164 (by kernel_rfl) (by kernel_rfl)
theorem at165 : ∀ y, some row165 = some y → RowAt (.O (.I (.I (.O (.O (.I (.O Pos.H))))))) y := row_at rfl Tryz.func165 (by kernel_rfl) (by kernel_rfl)
theorem at166 : ∀ y, some row166 = some y → RowAt (.I (.I (.I (.O (.O (.I (.O Pos.H))))))) y := row_at rfl Tryz.func166 (by kernel_rfl) (by kernel_rfl)
theorem at167 : ∀ y, some row167 = some y → RowAt (.O (.O (.O (.I (.O (.I (.O Pos.H))))))) y := row_at rfl Tryz.func167 (by kernel_rfl) (by kernel_rfl)
theorem at168 : ∀ y, some row168 = some y → RowAt (.I (.O (.O (.I (.O (.I (.O Pos.H))))))) y := row_at rfl Tryz.func168 (by kernel_rfl) (by kernel_rfl)
theorem at169 : ∀ y, some row169 = some y → RowAt (.O (.I (.O (.I (.O (.I (.O Pos.H))))))) y := row_at rfl Tryz.func169 (by kernel_rfl) (by kernel_rfl)
theorem at170 : ∀ y, some row170 = some y → RowAt (.I (.I (.O (.I (.O (.I (.O Pos.H))))))) y := row_at rfl Tryz.func170 (by kernel_rfl) (by kernel_rfl)
theorem at171 : ∀ y, some row171 = some y → RowAt (.O (.O (.I (.I (.O (.I (.O Pos.H))))))) y := row_at rfl Tryz.func171 (by kernel_rfl) (by kernel_rfl)
theorem at172 : ∀ y, some row172 = some y → RowAt (.I (.O (.I (.I (.O (.I (.O Pos.H))))))) y := row_at rfl Tryz.func172 (by kernel_rfl) (by kernel_rfl)
theorem at173 : ∀ y, some row173 = some y → RowAt (.O (.I (.I (.I (.O (.I (.O Pos.H))))))) y := row_at rfl Tryz.func173 (by kernel_rfl) (by kernel_rfl)
theorem at174 : ∀ y, some row174 = some y → RowAt (.I (.I (.I (.I (.O (.I (.O Pos.H))))))) y := row_at rfl Tryz.func174 (by kernel_rfl) (by kernel_rfl)
theorem at175 : ∀ y, some row175 = some y → RowAt (.O (.O (.O (.O (.I (.I (.O Pos.H))))))) y := row_at rfl Tryz.func175 (by kernel_rfl) (by kernel_rfl)
theorem at176 : ∀ y, some row176 = some y → RowAt (.I (.O (.O (.O (.I (.I (.O Pos.H))))))) y := row_at rfl Tryz.func176 (by kernel_rfl) (by kernel_rfl)
theorem at177 : ∀ y, some row177 = some y → RowAt (.O (.I (.O (.O (.I (.I (.O Pos.H))))))) y := row_at rfl Tryz.func177 (by kernel_rfl) (by kernel_rfl)
theorem at178 : ∀ y, some row178 = some y → RowAt (.I (.I (.O (.O (.I (.I (.O Pos.H))))))) y := row_at rfl Tryz.func178 (by kernel_rfl) (by kernel_rfl)
theorem at179 : ∀ y, some row179 = some y → RowAt (.O (.O (.I (.O (.I (.I (.O Pos.H))))))) y := row_at rfl Tryz.func179 (by kernel_rfl) (by kernel_rfl)
theorem at180 : ∀ y, some row180 = some y → RowAt (.I (.O (.I (.O (.I (.I (.O Pos.H))))))) y := row_at rfl Tryz.func180 (by kernel_rfl) (by kernel_rfl)
theorem at181 : ∀ y, some row181 = some y → RowAt (.O (.I (.I (.O (.I (.I (.O Pos.H))))))) y := row_at rfl Tryz.func181 (by kernel_rfl) (by kernel_rfl)
theorem at182 : ∀ y, some row182 = some y → RowAt (.I (.I (.I (.O (.I (.I (.O Pos.H))))))) y := row_at rfl Tryz.func182 (by kernel_rfl) (by kernel_rfl)
theorem at183 : ∀ y, some row183 = some y → RowAt (.O (.O (.O (.I (.I (.I (.O Pos.H))))))) y := row_at rfl Tryz.func183 (by kernel_rfl) (by kernel_rfl)
theorem at184 : ∀ y, some row184 = some y → RowAt (.I (.O (.O (.I (.I (.I (.O Pos.H))))))) y := row_at rfl Tryz.func184 (by kernel_rfl) (by kernel_rfl)
theorem at185 : ∀ y, some row185 = some y → RowAt (.O (.I (.O (.I (.I (.I (.O Pos.H))))))) y := row_at rfl Tryz.func185 (by kernel_rfl) (by kernel_rfl)
theorem at186 : ∀ y, some row186 = some y → RowAt (.I (.I (.O (.I (.I (.I (.O Pos.H))))))) y := row_at rfl Tryz.func186 (by kernel_rfl) (by kernel_rfl)
theorem at187 : ∀ y, some row187 = some y → RowAt (.O (.O (.I (.I (.I (.I (.O Pos.H))))))) y := row_at rfl Tryz.func187 (by kernel_rfl) (by kernel_rfl)
theorem at188 : ∀ y, some row188 = some y → RowAt (.I (.O (.I (.I (.I (.I (.O Pos.H))))))) y := row_at rfl Tryz.func188 (by kernel_rfl) (by kernel_rfl)
theorem at189 : ∀ y, some row189 = some y → RowAt (.O (.I (.I (.I (.I (.I (.O Pos.H))))))) y := row_at rfl Tryz.func189 (by kernel_rfl) (by kernel_rfl)
theorem at190 : ∀ y, some row190 = some y → RowAt (.I (.I (.I (.I (.I (.I (.O Pos.H))))))) y := row_at rfl Tryz.func190 (by kernel_rfl) (by kernel_rfl)
theorem at191 : ∀ y, some row191 = some y → RowAt (.O (.O (.O (.O (.O (.O (.I Pos.H))))))) y := row_at rfl Tryz.func191 (by kernel_rfl) (by kernel_rfl)
theorem at192 : ∀ y, some row192 = some y → RowAt (.I (.O (.O (.O (.O (.O (.I Pos.H))))))) y := row_at rfl Tryz.func192 (by kernel_rfl) (by kernel_rfl)
theorem at193 : ∀ y, some row193 = some y → RowAt (.O (.I (.O (.O (.O (.O (.I Pos.H))))))) y := row_at rfl Tryz.func193 (by kernel_rfl) (by kernel_rfl)
theorem at194 : ∀ y, some row194 = some y → RowAt (.I (.I (.O (.O (.O (.O (.I Pos.H))))))) y := row_at rfl Tryz.func194 (by kernel_rfl) (by kernel_rfl)
theorem at195 : ∀ y, some row195 = some y → RowAt (.O (.O (.I (.O (.O (.O (.I Pos.H))))))) y := row_at rfl Tryz.func195 (by kernel_rfl) (by kernel_rfl)
theorem at196 : ∀ y, some row196 = some y → RowAt (.I (.O (.I (.O (.O (.O (.I Pos.H))))))) y := row_at rfl Tryz.func196 (by kernel_rfl) (by kernel_rfl)
theorem at197 : ∀ y, some row197 = some y → RowAt (.O (.I (.I (.O (.O (.O (.I Pos.H))))))) y := row_at rfl Tryz.func197 (by kernel_rfl) (by kernel_rfl)
theorem at198 : ∀ y, some row198 = some y → RowAt (.I (.I (.I (.O (.O (.O (.I Pos.H))))))) y := row_at rfl Tryz.func198 (by kernel_rfl) (by kernel_rfl)
theorem at199 : ∀ y, some row199 = some y → RowAt (.O (.O (.O (.I (.O (.O (.I Pos.H))))))) y := row_at rfl Tryz.func199 (by kernel_rfl) (by kernel_rfl)
theorem at200 : ∀ y, some row200 = some y → RowAt (.I (.O (.O (.I (.O (.O (.I Pos.H))))))) y := row_at rfl Tryz.func200 (by kernel_rfl) (by kernel_rfl)
theorem at201 : ∀ y, some row201 = some y → RowAt (.O (.I (.O (.I (.O (.O (.I Pos.H))))))) y := row_at rfl Tryz.func201 (by kernel_rfl) (by kernel_rfl)
theorem at202 : ∀ y, some row202 = some y → RowAt (.I (.I (.O (.I (.O (.O (.I Pos.H))))))) y := row_at rfl Tryz.func202 (by kernel_rfl) (by kernel_rfl)
theorem at203 : ∀ y, some row203 = some y → RowAt (.O (.O (.I (.I (.O (.O (.I Pos.H))))))) y := row_at rfl Tryz.func203 (by kernel_rfl) (by kernel_rfl)
theorem at204 : ∀ y, some row204 = some y → RowAt (.I (.O (.I (.I (.O (.O (.I Pos.H))))))) y := row_at rfl Tryz.func204 (by kernel_rfl) (by kernel_rfl)
theorem at205 : ∀ y, some row205 = some y → RowAt (.O (.I (.I (.I (.O (.O (.I Pos.H))))))) y := row_at rfl Tryz.func205 (by kernel_rfl) (by kernel_rfl)
theorem at206 : ∀ y, some row206 = some y → RowAt (.I (.I (.I (.I (.O (.O (.I Pos.H))))))) y := row_at rfl Tryz.func206 (by kernel_rfl) (by kernel_rfl)
theorem at207 : ∀ y, some row207 = some y → RowAt (.O (.O (.O (.O (.I (.O (.I Pos.H))))))) y := row_at rfl Tryz.func207 (by kernel_rfl) (by kernel_rfl)
theorem at208 : ∀ y, some row208 = some y → RowAt (.I (.O (.O (.O (.I (.O (.I Pos.H))))))) y := row_at rfl Tryz.func208 (by kernel_rfl) (by kernel_rfl)
theorem at209 : ∀ y, some row209 = some y → RowAt (.O (.I (.O (.O (.I (.O (.I Pos.H))))))) y := row_at rfl Tryz.func209 (by kernel_rfl) (by kernel_rfl)
theorem at210 : ∀ y, some row210 = some y → RowAt (.I (.I (.O (.O (.I (.O (.I Pos.H))))))) y := row_at rfl Tryz.func210 (by kernel_rfl) (by kernel_rfl)
theorem at211 : ∀ y, some row211 = some y → RowAt (.O (.O (.I (.O (.I (.O (.I Pos.H))))))) y := row_at rfl Tryz.func211 (by kernel_rfl) (by kernel_rfl)
theorem at212 : ∀ y, some row212 = some y → RowAt (.I (.O (.I (.O (.I (.O (.I Pos.H))))))) y := row_at rfl Tryz.func212 (by kernel_rfl) (by kernel_rfl)
theorem at213 : ∀ y, some row213 = some y → RowAt (.O (.I (.I (.O (.I (.O (.I Pos.H))))))) y := row_at rfl Tryz.func213 (by kernel_rfl) (by kernel_rfl)
theorem at214 : ∀ y, some row214 = some y → RowAt (.I (.I (.I (.O (.I (.O (.I Pos.H))))))) y := row_at rfl Tryz.func214 (by kernel_rfl) (by kernel_rfl)
theorem at215 : ∀ y, some row215 = some y → RowAt (.O (.O (.O (.I (.I (.O (.I Pos.H))))))) y := row_at rfl Tryz.func215 (by kernel_rfl) (by kernel_rfl)
theorem at216 : ∀ y, some row216 = some y → RowAt (.I (.O (.O (.I (.I (.O (.I Pos.H))))))) y := row_at rfl Tryz.func216 (by kernel_rfl) (by kernel_rfl)
theorem at217 : ∀ y, some row217 = some y → RowAt (.O (.I (.O (.I (.I (.O (.I Pos.H))))))) y := row_at rfl Tryz.func217 (by kernel_rfl) (by kernel_rfl)
theorem at218 : ∀ y, some row218 = some y → RowAt (.I (.I (.O (.I (.I (.O (.I Pos.H))))))) y := row_at rfl Tryz.func218 (by kernel_rfl) (by kernel_rfl)
theorem at219 : ∀ y, some row219 = some y → RowAt (.O (.O (.I (.I (.I (.O (.I Pos.H))))))) y := row_at rfl Tryz.func219 (by kernel_rfl) (by kernel_rfl)
theorem at220 : ∀ y, some row220 = some y → RowAt (.I (.O (.I (.I (.I (.O (.I Pos.H))))))) y := row_at rfl Tryz.func220 (by kernel_rfl) (by kernel_rfl)
theorem at221 : ∀ y, some row221 = some y → RowAt (.O (.I (.I (.I (.I (.O (.I Pos.H))))))) y := row_at rfl Tryz.func221 (by kernel_rfl) (by kernel_rfl)
theorem at222 : ∀ y, some row222 = some y → RowAt (.I (.I (.I (.I (.I (.O (.I Pos.H))))))) y := row_at rfl Tryz.func222 (by kernel_rfl) (by kernel_rfl)
theorem at223 : ∀ y, some row223 = some y → RowAt (.O (.O (.O (.O (.O (.I (.I Pos.H))))))) y := row_at rfl Tryz.func223 (by kernel_rfl) (by kernel_rfl)
theorem at224 : ∀ y, some row224 = some y → RowAt (.I (.O (.O (.O (.O (.I (.I Pos.H))))))) y := row_at rfl Tryz.func224 (by kernel_rfl) (by kernel_rfl)
theorem at225 : ∀ y, some row225 = some y → RowAt (.O (.I (.O (.O (.O (.I (.I Pos.H))))))) y := row_at rfl Tryz.func225 (by kernel_rfl) (by kernel_rfl)
theorem at226 : ∀ y, some row226 = some y → RowAt (.I (.I (.O (.O (.O (.I (.I Pos.H))))))) y := row_at rfl Tryz.func226 (by kernel_rfl) (by kernel_rfl)
theorem at227 : ∀ y, some row227 = some y → RowAt (.O (.O (.I (.O (.O (.I (.I Pos.H))))))) y := row_at rfl Tryz.func227 (by kernel_rfl) (by kernel_rfl)
theorem at228 : ∀ y, some row228 = some y → RowAt (.I (.O (.I (.O (.O (.I (.I Pos.H))))))) y := row_at rfl Tryz.func228 (by kernel_rfl) (by kernel_rfl)
theorem at229 : ∀ y, some row229 = some y → RowAt (.O (.I (.I (.O (.O (.I (.I Pos.H))))))) y := row_at rfl Tryz.func229 (by kernel_rfl) (by kernel_rfl)
theorem at230 : ∀ y, some row230 = some y → RowAt (.I (.I (.I (.O (.O (.I (.I Pos.H))))))) y := row_at rfl Tryz.func230 (by kernel_rfl) (by kernel_rfl)
theorem at231 : ∀ y, some row231 = some y → RowAt (.O (.O (.O (.I (.O (.I (.I Pos.H))))))) y := row_at rfl Tryz.func231 (by kernel_rfl) (by kernel_rfl)
theorem at232 : ∀ y, some row232 = some y → RowAt (.I (.O (.O (.I (.O (.I (.I Pos.H))))))) y := row_at rfl Tryz.func232 (by kernel_rfl) (by kernel_rfl)
theorem at233 : ∀ y, some row233 = some y → RowAt (.O (.I (.O (.I (.O (.I (.I Pos.H))))))) y := row_at rfl Tryz.func233 (by kernel_rfl) (by kernel_rfl)
theorem at234 : ∀ y, some row234 = some y → RowAt (.I (.I (.O (.I (.O (.I (.I Pos.H))))))) y := row_at rfl Tryz.func234 (by kernel_rfl) (by kernel_rfl)
theorem at235 : ∀ y, some row235 = some y → RowAt (.O (.O (.I (.I (.O (.I (.I Pos.H))))))) y := row_at rfl Tryz.func235 (by kernel_rfl) (by kernel_rfl)
theorem at236 : ∀ y, some row236 = some y → RowAt (.I (.O (.I (.I (.O (.I (.I Pos.H))))))) y := row_at rfl Tryz.func236 (by kernel_rfl) (by kernel_rfl)
theorem at237 : ∀ y, some row237 = some y → RowAt (.O (.I (.I (.I (.O (.I (.I Pos.H))))))) y := row_at rfl Tryz.func237 (by kernel_rfl) (by kernel_rfl)
theorem at238 : ∀ y, some row238 = some y → RowAt (.I (.I (.I (.I (.O (.I (.I Pos.H))))))) y := row_at rfl Tryz.func238 (by kernel_rfl) (by kernel_rfl)
theorem at239 : ∀ y, some row239 = some y → RowAt (.O (.O (.O (.O (.I (.I (.I Pos.H))))))) y := row_at rfl Tryz.func239 (by kernel_rfl) (by kernel_rfl)
theorem at240 : ∀ y, some row240 = some y → RowAt (.I (.O (.O (.O (.I (.I (.I Pos.H))))))) y := row_at rfl Tryz.func240 (by kernel_rfl) (by kernel_rfl)
theorem at241 : ∀ y, some row241 = some y → RowAt (.O (.I (.O (.O (.I (.I (.I Pos.H))))))) y := row_at rfl Tryz.func241 (by kernel_rfl) (by kernel_rfl)
theorem at242 : ∀ y, some row242 = some y → RowAt (.I (.I (.O (.O (.I (.I (.I Pos.H))))))) y := row_at rfl Tryz.func242 (by kernel_rfl) (by kernel_rfl)
theorem at243 : ∀ y, some row243 = some y → RowAt (.O (.O (.I (.O (.I (.I (.I Pos.H))))))) y := row_at rfl Tryz.func243 (by kernel_rfl) (by kernel_rfl)
theorem at244 : ∀ y, some row244 = some y → RowAt (.I (.O (.I (.O (.I (.I (.I Pos.H))))))) y := row_at rfl Tryz.func244 (by kernel_rfl) (by kernel_rfl)
theorem at245 : ∀ y, some row245 = some y → RowAt (.O (.I (.I (.O (.I (.I (.I Pos.H))))))) y := row_at rfl Tryz.func245 (by kernel_rfl) (by kernel_rfl)
theorem at246 : ∀ y, some row246 = some y → RowAt (.I (.I (.I (.O (.I (.I (.I Pos.H))))))) y := row_at rfl Tryz.func246 (by kernel_rfl) (by kernel_rfl)
theorem at247 : ∀ y, some row247 = some y → RowAt (.O (.O (.O (.I (.I (.I (.I Pos.H))))))) y := row_at rfl Tryz.func247 (by kernel_rfl) (by kernel_rfl)
theorem at248 : ∀ y, some row248 = some y → RowAt (.I (.O (.O (.I (.I (.I (.I Pos.H))))))) y := row_at rfl Tryz.func248 (by kernel_rfl) (by kernel_rfl)
theorem at249 : ∀ y, some row249 = some y → RowAt (.O (.I (.O (.I (.I (.I (.I Pos.H))))))) y := row_at rfl Tryz.func249 (by kernel_rfl) (by kernel_rfl)
theorem at250 : ∀ y, some row250 = some y → RowAt (.I (.I (.O (.I (.I (.I (.I Pos.H))))))) y := row_at rfl Tryz.func250 (by kernel_rfl) (by kernel_rfl)
theorem at251 : ∀ y, some row251 = some y → RowAt (.O (.O (.I (.I (.I (.I (.I Pos.H))))))) y := row_at rfl Tryz.func251 (by kernel_rfl) (by kernel_rfl)
theorem at252 : ∀ y, some row252 = some y → RowAt (.I (.O (.I (.I (.I (.I (.I Pos.H))))))) y := row_at rfl Tryz.func252 (by kernel_rfl) (by kernel_rfl)
theorem at253 : ∀ y, some row253 = some y → RowAt (.O (.I (.I (.I (.I (.I (.I Pos.H))))))) y := row_at rfl Tryz.func253 (by kernel_rfl) (by kernel_rfl)
theorem at254 : ∀ y, some row254 = some y → RowAt (.I (.I (.I (.I (.I (.I (.I Pos.H))))))) y := row_at rfl Tryz.func254 (by kernel_rfl) (by kernel_rfl)
theorem at255 : ∀ y, some row255 = some y → RowAt (.O (.O (.O (.O (.O (.O (.O (.O Pos.H)))))))) y := row_at rfl Tryz.func255 (by kernel_rfl) (by kernel_rfl)
theorem at256 : ∀ y, some row256 = some y → RowAt (.I (.O (.O (.O (.O (.O (.O (.O Pos.H)))))))) y := row_at rfl Tryz.func256 (by kernel_rfl) (by kernel_rfl)
theorem at257 : ∀ y, some row257 = some y → RowAt (.O (.I (.O (.O (.O (.O (.O (.O Pos.H)))))))) y := row_at rfl Tryz.func257 (by kernel_rfl) (by kernel_rfl)
theorem at258 : ∀ y, some row258 = some y → RowAt (.I (.I (.O (.O (.O (.O (.O (.O Pos.H)))))))) y := row_at rfl Tryz.func258 (by kernel_rfl) (by kernel_rfl)
theorem at259 : ∀ y, some row259 = some y → RowAt (.O (.O (.I (.O (.O (.O (.O (.O Pos.H)))))))) y := row_at rfl Tryz.func259 (by kernel_rfl) (by kernel_rfl)
theorem at260 : ∀ y, some row260 = some y → RowAt (.I (.O (.I (.O (.O (.O (.O (.O Pos.H)))))))) y := row_at rfl Tryz.func260 (by kernel_rfl) (by kernel_rfl)
theorem at261 : ∀ y, some row261 = some y → RowAt (.O (.I (.I (.O (.O (.O (.O (.O Pos.H)))))))) y := row_at rfl Tryz.func261 (by kernel_rfl) (by kernel_rfl)
theorem at262 : ∀ y, some row262 = some y → RowAt (.I (.I (.I (.O (.O (.O (.O (.O Pos.H)))))))) y := row_at rfl Tryz.func262 (by kernel_rfl) (by kernel_rfl)
theorem at263 : ∀ y, some row263 = some y → RowAt (.O (.O (.O (.I (.O (.O (.O (.O Pos.H)))))))) y := row_at rfl Tryz.func263 (by kernel_rfl) (by kernel_rfl)
theorem at264 : ∀ y, some row264 = some y → RowAt (.I (.O (.O (.I (.O (.O (.O (.O Pos.H)))))))) y := row_at rfl Tryz.func264 (by kernel_rfl) (by kernel_rfl)
theorem at265 : ∀ y, some row265 = some y → RowAt (.O (.I (.O (.I (.O (.O (.O (.O Pos.H)))))))) y := row_at rfl Tryz.func265 (by kernel_rfl) (by kernel_rfl)
theorem at266 : ∀ y, some row266 = some y → RowAt (.I (.I (.O (.I (.O (.O (.O (.O Pos.H)))))))) y := row_at rfl Tryz.func266 (by kernel_rfl) (by kernel_rfl)
theorem at267 : ∀ y, some row267 = some y → RowAt (.O (.O (.I (.I (.O (.O (.O (.O Pos.H)))))))) y := row_at rfl Tryz.func267 (by kernel_rfl) (by kernel_rfl)
theorem at268 : ∀ y, some row268 = some y → RowAt (.I (.O (.I (.I (.O (.O (.O (.O Pos.H)))))))) y := row_at rfl Tryz.func268 (by kernel_rfl) (by kernel_rfl)
theorem at269 : ∀ y, some row269 = some y → RowAt (.O (.I (.I (.I (.O (.O (.O (.O Pos.H)))))))) y := row_at rfl Tryz.func269 (by kernel_rfl) (by kernel_rfl)
theorem at270 : ∀ y, some row270 = some y → RowAt (.I (.I (.I (.I (.O (.O (.O (.O Pos.H)))))))) y := row_at rfl Tryz.func270 (by kernel_rfl) (by kernel_rfl)
theorem at271 : ∀ y, some row271 = some y → RowAt (.O (.O (.O (.O (.I (.O (.O (.O Pos.H)))))))) y := row_at rfl Tryz.func271 (by kernel_rfl) (by kernel_rfl)
theorem at272 : ∀ y, some row272 = some y → RowAt (.I (.O (.O (.O (.I (.O (.O (.O Pos.H)))))))) y := row_at rfl Tryz.func272 (by kernel_rfl) (by kernel_rfl)
theorem at273 : ∀ y, some row273 = some y → RowAt (.O (.I (.O (.O (.I (.O (.O (.O Pos.H)))))))) y := row_at rfl Tryz.func273 (by kernel_rfl) (by kernel_rfl)
theorem at274 : ∀ y, some row274 = some y → RowAt (.I (.I (.O (.O (.I (.O (.O (.O Pos.H)))))))) y := row_at rfl Tryz.func274 (by kernel_rfl) (by kernel_rfl)
theorem at275 : ∀ y, some row275 = some y → RowAt (.O (.O (.I (.O (.I (.O (.O (.O Pos.H)))))))) y := row_at rfl Tryz.func275 (by kernel_rfl) (by kernel_rfl)
theorem at276 : ∀ y, some row276 = some y → RowAt (.I (.O (.I (.O (.I (.O (.O (.O Pos.H)))))))) y := row_at rfl Tryz.func276 (by kernel_rfl) (by kernel_rfl)
theorem at277 : ∀ y, some row277 = some y → RowAt (.O (.I (.I (.O (.I (.O (.O (.O Pos.H)))))))) y := row_at rfl Tryz.func277 (by kernel_rfl) (by kernel_rfl)
theorem at278 : ∀ y, some row278 = some y → RowAt (.I (.I (.I (.O (.I (.O (.O (.O Pos.H)))))))) y := row_at rfl Tryz.func278 (by kernel_rfl) (by kernel_rfl)
theorem at279 : ∀ y, some row279 = some y → RowAt (.O (.O (.O (.I (.I (.O (.O (.O Pos.H)))))))) y := row_at rfl Tryz.func279 (by kernel_rfl) (by kernel_rfl)
theorem at280 : ∀ y, some row280 = some y → RowAt (.I (.O (.O (.I (.I (.O (.O (.O Pos.H)))))))) y := row_at rfl Tryz.func280 (by kernel_rfl) (by kernel_rfl)
theorem at281 : ∀ y, some row281 = some y → RowAt (.O (.I (.O (.I (.I (.O (.O (.O Pos.H)))))))) y := row_at rfl Tryz.func281 (by kernel_rfl) (by kernel_rfl)
theorem at282 : ∀ y, some row282 = some y → RowAt (.I (.I (.O (.I (.I (.O (.O (.O Pos.H)))))))) y := row_at rfl Tryz.func282 (by kernel_rfl) (by kernel_rfl)
theorem at283 : ∀ y, some row283 = some y → RowAt (.O (.O (.I (.I (.I (.O (.O (.O Pos.H)))))))) y := row_at rfl Tryz.func283 (by kernel_rfl) (by kernel_rfl)
theorem at284 : ∀ y, some row284 = some y → RowAt (.I (.O (.I (.I (.I (.O (.O (.O Pos.H)))))))) y := row_at rfl Tryz.func284 (by kernel_rfl) (by kernel_rfl)
theorem at285 : ∀ y, some row285 = some y → RowAt (.O (.I (.I (.I (.I (.O (.O (.O Pos.H)))))))) y := row_at rfl Tryz.func285 (by kernel_rfl) (by kernel_rfl)
theorem at286 : ∀ y, some row286 = some y → RowAt (.I (.I (.I (.I (.I (.O (.O (.O Pos.H)))))))) y := row_at rfl Tryz.func286 (by kernel_rfl) (by kernel_rfl)
theorem at287 : ∀ y, some row287 = some y → RowAt (.O (.O (.O (.O (.O (.I (.O (.O Pos.H)))))))) y := row_at rfl Tryz.func287 (by kernel_rfl) (by kernel_rfl)
theorem at288 : ∀ y, some row288 = some y → RowAt (.I (.O (.O (.O (.O (.I (.O (.O Pos.H)))))))) y := row_at rfl Tryz.func288 (by kernel_rfl) (by kernel_rfl)
theorem at289 : ∀ y, some row289 = some y → RowAt (.O (.I (.O (.O (.O (.I (.O (.O Pos.H)))))))) y := row_at rfl Tryz.func289 (by kernel_rfl) (by kernel_rfl)
theorem at290 : ∀ y, some row290 = some y → RowAt (.I (.I (.O (.O (.O (.I (.O (.O Pos.H)))))))) y := row_at rfl Tryz.func290 (by kernel_rfl) (by kernel_rfl)
theorem at291 : ∀ y, some row291 = some y → RowAt (.O (.O (.I (.O (.O (.I (.O (.O Pos.H)))))))) y := row_at rfl Tryz.func291 (by kernel_rfl) (by kernel_rfl)
theorem at292 : ∀ y, some row292 = some y → RowAt (.I (.O (.I (.O (.O (.I (.O (.O Pos.H)))))))) y := row_at rfl Tryz.func292 (by kernel_rfl) (by kernel_rfl)
theorem at293 : ∀ y, some row293 = some y → RowAt (.O (.I (.I (.O (.O (.I (.O (.O Pos.H)))))))) y := row_at rfl Tryz.func293 (by kernel_rfl) (by kernel_rfl)
theorem at294 : ∀ y, some row294 = some y → RowAt (.I (.I (.I (.O (.O (.I (.O (.O Pos.H)))))))) y := row_at rfl Tryz.func294 (by kernel_rfl) (by kernel_rfl)
theorem at295 : ∀ y, some row295 = some y → RowAt (.O (.O (.O (.I (.O (.I (.O (.O Pos.H)))))))) y := row_at rfl Tryz.func295 (by kernel_rfl) (by kernel_rfl)
theorem at296 : ∀ y, some row296 = some y → RowAt (.I (.O (.O (.I (.O (.I (.O (.O Pos.H)))))))) y := row_at rfl Tryz.func296 (by kernel_rfl) (by kernel_rfl)
theorem at297 : ∀ y, some row297 = some y → RowAt (.O (.I (.O (.I (.O (.I (.O (.O Pos.H)))))))) y := row_at rfl Tryz.func297 (by kernel_rfl) (by kernel_rfl)
theorem at298 : ∀ y, some row298 = some y → RowAt (.I (.I (.O (.I (.O (.I (.O (.O Pos.H)))))))) y := row_at rfl Tryz.func298 (by kernel_rfl) (by kernel_rfl)
theorem at299 : ∀ y, some row299 = some y → RowAt (.O (.O (.I (.I (.O (.I (.O (.O Pos.H)))))))) y := row_at rfl Tryz.func299 (by kernel_rfl) (by kernel_rfl)
theorem at300 : ∀ y, some row300 = some y → RowAt (.I (.O (.I (.I (.O (.I (.O (.O Pos.H)))))))) y := row_at rfl Tryz.func300 (by kernel_rfl) (by kernel_rfl)
theorem at301 : ∀ y, some row301 = some y → RowAt (.O (.I (.I (.I (.O (.I (.O (.O Pos.H)))))))) y := row_at rfl Tryz.func301 (by kernel_rfl) (by kernel_rfl)
theorem at302 : ∀ y, some row302 = some y → RowAt (.I (.I (.I (.I (.O (.I (.O (.O Pos.H)))))))) y := row_at rfl Tryz.func302 (by kernel_rfl) (by kernel_rfl)
theorem at303 : ∀ y, some row303 = some y → RowAt (.O (.O (.O (.O (.I (.I (.O (.O Pos.H)))))))) y := row_at rfl Tryz.func303 (by kernel_rfl) (by kernel_rfl)
theorem at304 : ∀ y, some row304 = some y → RowAt (.I (.O (.O (.O (.I (.I (.O (.O Pos.H)))))))) y := row_at rfl Tryz.func304 (by kernel_rfl) (by kernel_rfl)
theorem at305 : ∀ y, some row305 = some y → RowAt (.O (.I (.O (.O (.I (.I (.O (.O Pos.H)))))))) y := row_at rfl Tryz.func305 (by kernel_rfl) (by kernel_rfl)
theorem at306 : ∀ y, some row306 = some y → RowAt (.I (.I (.O (.O (.I (.I (.O (.O Pos.H)))))))) y := row_at rfl Tryz.func306 (by kernel_rfl) (by kernel_rfl)
theorem at307 : ∀ y, some row307 = some y → RowAt (.O (.O (.I (.O (.I (.I (.O (.O Pos.H)))))))) y := row_at rfl Tryz.func307 (by kernel_rfl) (by kernel_rfl)
theorem at308 : ∀ y, some row308 = some y → RowAt (.I (.O (.I (.O (.I (.I (.O (.O Pos.H)))))))) y := row_at rfl Tryz.func308 (by kernel_rfl) (by kernel_rfl)
theorem at309 : ∀ y, some row309 = some y → RowAt (.O (.I (.I (.O (.I (.I (.O (.O Pos.H)))))))) y := row_at rfl Tryz.func309 (by kernel_rfl) (by kernel_rfl)
theorem at310 : ∀ y, some row310 = some y → RowAt (.I (.I (.I (.O (.I (.I (.O (.O Pos.H)))))))) y := row_at rfl Tryz.func310 (by kernel_rfl) (by kernel_rfl)
theorem at311 : ∀ y, some row311 = some y → RowAt (.O (.O (.O (.I (.I (.I (.O (.O Pos.H)))))))) y := row_at rfl Tryz.func311 (by kernel_rfl) (by kernel_rfl)
theorem at312 : ∀ y, some row312 = some y → RowAt (.I (.O (.O (.I (.I (.I (.O (.O Pos.H)))))))) y := row_at rfl Tryz.func312 (by kernel_rfl) (by kernel_rfl)
theorem at313 : ∀ y, some row313 = some y → RowAt (.O (.I (.O (.I (.I (.I (.O (.O Pos.H)))))))) y := row_at rfl Tryz.func313 (by kernel_rfl) (by kernel_rfl)
theorem at314 : ∀ y, some row314 = some y → RowAt (.I (.I (.O (.I (.I (.I (.O (.O Pos.H)))))))) y := row_at rfl Tryz.func314 (by kernel_rfl) (by kernel_rfl)
theorem at315 : ∀ y, some row315 = some y → RowAt (.O (.O (.I (.I (.I (.I (.O (.O Pos.H)))))))) y := row_at rfl Tryz.func315 (by kernel_rfl) (by kernel_rfl)
theorem at316 : ∀ y, some row316 = some y → RowAt (.I (.O (.I (.I (.I (.I (.O (.O Pos.H)))))))) y := row_at rfl Tryz.func316 (by kernel_rfl) (by kernel_rfl)
theorem at317 : ∀ y, some row317 = some y → RowAt (.O (.I (.I (.I (.I (.I (.O (.O Pos.H)))))))) y := row_at rfl Tryz.func317 (by kernel_rfl) (by kernel_rfl)
theorem at318 : ∀ y, some row318 = some y → RowAt (.I (.I (.I (.I (.I (.I (.O (.O Pos.H)))))))) y := row_at rfl Tryz.func318 (by kernel_rfl) (by kernel_rfl)
theorem at319 : ∀ y, some row319 = some y → RowAt (.O (.O (.O (.O (.O (.O (.I (.O Pos.H)))))))) y := row_at rfl Tryz.func319 (by kernel_rfl) (by kernel_rfl)
theorem at320 : ∀ y, some row320 = some y → RowAt (.I (.O (.O (.O (.O (.O (.I (.O Pos.H)))))))) y := row_at rfl Tryz.func320 (by kernel_rfl) (by kernel_rfl)
theorem at321 : ∀ y, some row321 = some y → RowAt (.O (.I (.O (.O (.O (.O (.I (.O Pos.H)))))))) y := row_at rfl Tryz.func321 (by kernel_rfl) (by kernel_rfl)
theorem at322 : ∀ y, some row322 = some y → RowAt (.I (.I (.O (.O (.O (.O (.I (.O Pos.H)))))))) y := row_at rfl Tryz.func322 (by kernel_rfl) (by kernel_rfl)
theorem at323 : ∀ y, some row323 = some y → RowAt (.O (.O (.I (.O (.O (.O (.I (.O Pos.H)))))))) y := row_at rfl Tryz.func323 (by kernel_rfl) (by kernel_rfl)
theorem at324 : ∀ y, some row324 = some y → RowAt (.I (.O (.I (.O (.O (.O (.I (.O Pos.H)))))))) y := row_at rfl Tryz.func324 (by kernel_rfl) (by kernel_rfl)
theorem at325 : ∀ y, some row325 = some y → RowAt (.O (.I (.I (.O (.O (.O (.I (.O Pos.H)))))))) y := row_at rfl Tryz.func325 (by kernel_rfl) (by kernel_rfl)
theorem at326 : ∀ y, some row326 = some y → RowAt (.I (.I (.I (.O (.O (.O (.I (.O Pos.H)))))))) y := row_at rfl Tryz.func326 (by kernel_rfl) (by kernel_rfl)
theorem at327 : ∀ y, some row327 = some y → RowAt (.O (.O (.O (.I (.O (.O (.I (.O Pos.H)))))))) y := row_at rfl Tryz.func327 (by kernel_rfl) (by kernel_rfl)
theorem at328 : ∀ y, some row328 = some y → RowAt (.I (.O (.O (.I (.O (.O (.I (.O Pos.H)))))))) y := row_at rfl Tryz.func328 (by kernel_rfl) (by kernel_rfl)
theorem at329 : ∀ y, some row329 = some y → RowAt (.O (.I (.O (.I (.O (.O (.I (.O Pos.H)))))))) y := row_at rfl Tryz.func329 (by kernel_rfl) (by kernel_rfl)
theorem at330 : ∀ y, some row330 = some y → RowAt (.I (.I (.O (.I (.O (.O (.I (.O Pos.H)))))))) y := row_at rfl Tryz.func330 (by kernel_rfl) (by kernel_rfl)
theorem at331 : ∀ y, some row331 = some y → RowAt (.O (.O (.I (.I (.O (.O (.I (.O Pos.H)))))))) y := row_at rfl Tryz.func331 (by kernel_rfl) (by kernel_rfl)
theorem at332 : ∀ y, some row332 = some y → RowAt (.I (.O (.I (.I (.O (.O (.I (.O Pos.H)))))))) y := row_at rfl Tryz.func332 (by kernel_rfl) (by kernel_rfl)
theorem at333 : ∀ y, some row333 = some y → RowAt (.O (.I (.I (.I (.O (.O (.I (.O Pos.H)))))))) y := row_at rfl Tryz.func333 (by kernel_rfl) (by kernel_rfl)
theorem at334 : ∀ y, some row334 = some y → RowAt (.I (.I (.I (.I (.O (.O (.I (.O Pos.H)))))))) y := row_at rfl Tryz.func334 (by kernel_rfl) (by kernel_rfl)
theorem at335 : ∀ y, some row335 = some y → RowAt (.O (.O (.O (.O (.I (.O (.I (.O Pos.H)))))))) y := row_at rfl Tryz.func335 (by kernel_rfl) (by kernel_rfl)
theorem at336 : ∀ y, some row336 = some y → RowAt (.I (.O (.O (.O (.I (.O (.I (.O Pos.H)))))))) y := row_at rfl Tryz.func336 (by kernel_rfl) (by kernel_rfl)
theorem at337 : ∀ y, some row337 = some y → RowAt (.O (.I (.O (.O (.I (.O (.I (.O Pos.H)))))))) y := row_at rfl Tryz.func337 (by kernel_rfl) (by kernel_rfl)
theorem at338 : ∀ y, some row338 = some y → RowAt (.I (.I (.O (.O (.I (.O (.I (.O Pos.H)))))))) y := row_at rfl Tryz.func338 (by kernel_rfl) (by kernel_rfl)
theorem at339 : ∀ y, some row339 = some y → RowAt (.O (.O (.I (.O (.I (.O (.I (.O Pos.H)))))))) y := row_at rfl Tryz.func339 (by kernel_rfl) (by kernel_rfl)
theorem at340 : ∀ y, some row340 = some y → RowAt (.I (.O (.I (.O (.I (.O (.I (.O Pos.H)))))))) y := row_at rfl Tryz.func340 (by kernel_rfl) (by kernel_rfl)
theorem at341 : ∀ y, some row341 = some y → RowAt (.O (.I (.I (.O (.I (.O (.I (.O Pos.H)))))))) y := row_at rfl Tryz.func341 (by kernel_rfl) (by kernel_rfl)
theorem at342 : ∀ y, some row342 = some y → RowAt (.I (.I (.I (.O (.I (.O (.I (.O Pos.H)))))))) y := row_at rfl Tryz.func342 (by kernel_rfl) (by kernel_rfl)
theorem at343 : ∀ y, some row343 = some y → RowAt (.O (.O (.O (.I (.I (.O (.I (.O Pos.H)))))))) y := row_at rfl Tryz.func343 (by kernel_rfl) (by kernel_rfl)
theorem at344 : ∀ y, some row344 = some y → RowAt (.I (.O (.O (.I (.I (.O (.I (.O Pos.H)))))))) y := row_at rfl Tryz.func344 (by kernel_rfl) (by kernel_rfl)
theorem at345 : ∀ y, some row345 = some y → RowAt (.O (.I (.O (.I (.I (.O (.I (.O Pos.H)))))))) y := row_at rfl Tryz.func345 (by kernel_rfl) (by kernel_rfl)
theorem at346 : ∀ y, some row346 = some y → RowAt (.I (.I (.O (.I (.I (.O (.I (.O Pos.H)))))))) y := row_at rfl Tryz.func346 (by kernel_rfl) (by kernel_rfl)
theorem at347 : ∀ y, some row347 = some y → RowAt (.O (.O (.I (.I (.I (.O (.I (.O Pos.H)))))))) y := row_at rfl Tryz.func347 (by kernel_rfl) (by kernel_rfl)
theorem at348 : ∀ y, some row348 = some y → RowAt (.I (.O (.I (.I (.I (.O (.I (.O Pos.H)))))))) y := row_at rfl Tryz.func348 (by kernel_rfl) (by kernel_rfl)
theorem at349 : ∀ y, some row349 = some y → RowAt (.O (.I (.I (.I (.I (.O (.I (.O Pos.H)))))))) y := row_at rfl Tryz.func349 (by kernel_rfl) (by kernel_rfl)
theorem at350 : ∀ y, some row350 = some y → RowAt (.I (.I (.I (.I (.I (.O (.I (.O Pos.H)))))))) y := row_at rfl Tryz.func350 (by kernel_rfl) (by kernel_rfl)
theorem at351 : ∀ y, some row351 = some y → RowAt (.O (.O (.O (.O (.O (.I (.I (.O Pos.H)))))))) y := row_at rfl Tryz.func351 (by kernel_rfl) (by kernel_rfl)
theorem at352 : ∀ y, some row352 = some y → RowAt (.I (.O (.O (.O (.O (.I (.I (.O Pos.H)))))))) y := row_at rfl Tryz.func352 (by kernel_rfl) (by kernel_rfl)
theorem at353 : ∀ y, some row353 = some y → RowAt (.O (.I (.O (.O (.O (.I (.I (.O Pos.H)))))))) y := row_at rfl Tryz.func353 (by kernel_rfl) (by kernel_rfl)
theorem at354 : ∀ y, some row354 = some y → RowAt (.I (.I (.O (.O (.O (.I (.I (.O Pos.H)))))))) y := row_at rfl Tryz.func354 (by kernel_rfl) (by kernel_rfl)
theorem at355 : ∀ y, some row355 = some y → RowAt (.O (.O (.I (.O (.O (.I (.I (.O Pos.H)))))))) y := row_at rfl Tryz.func355 (by kernel_rfl) (by kernel_rfl)
theorem at356 : ∀ y, some row356 = some y → RowAt (.I (.O (.I (.O (.O (.I (.I (.O Pos.H)))))))) y := row_at rfl Tryz.func356 (by kernel_rfl) (by kernel_rfl)
theorem at357 : ∀ y, some row357 = some y → RowAt (.O (.I (.I (.O (.O (.I (.I (.O Pos.H)))))))) y := row_at rfl Tryz.func357 (by kernel_rfl) (by kernel_rfl)
theorem at358 : ∀ y, some row358 = some y → RowAt (.I (.I (.I (.O (.O (.I (.I (.O Pos.H)))))))) y := row_at rfl Tryz.func358 (by kernel_rfl) (by kernel_rfl)
theorem at359 : ∀ y, some row359 = some y → RowAt (.O (.O (.O (.I (.O (.I (.I (.O Pos.H)))))))) y := row_at rfl Tryz.func359 (by kernel_rfl) (by kernel_rfl)
theorem at360 : ∀ y, some row360 = some y → RowAt (.I (.O (.O (.I (.O (.I (.I (.O Pos.H)))))))) y := row_at rfl Tryz.func360 (by kernel_rfl) (by kernel_rfl)
theorem at361 : ∀ y, some row361 = some y → RowAt (.O (.I (.O (.I (.O (.I (.I (.O Pos.H)))))))) y := row_at rfl Tryz.func361 (by kernel_rfl) (by kernel_rfl)
theorem at362 : ∀ y, some row362 = some y → RowAt (.I (.I (.O (.I (.O (.I (.I (.O Pos.H)))))))) y := row_at rfl Tryz.func362 (by kernel_rfl) (by kernel_rfl)
theorem at363 : ∀ y, some row363 = some y → RowAt (.O (.O (.I (.I (.O (.I (.I (.O Pos.H)))))))) y := row_at rfl Tryz.func363 (by kernel_rfl) (by kernel_rfl)
theorem at364 : ∀ y, some row364 = some y → RowAt (.I (.O (.I (.I (.O (.I (.I (.O Pos.H)))))))) y := row_at rfl Tryz.func364 (by kernel_rfl) (by kernel_rfl)
theorem at365 : ∀ y, some row365 = some y → RowAt (.O (.I (.I (.I (.O (.I (.I (.O Pos.H)))))))) y := row_at rfl Tryz.func365 (by kernel_rfl) (by kernel_rfl)
theorem at366 : ∀ y, some row366 = some y → RowAt (.I (.I (.I (.I (.O (.I (.I (.O Pos.H)))))))) y := row_at rfl Tryz.func366 (by kernel_rfl) (by kernel_rfl)
theorem at367 : ∀ y, some row367 = some y → RowAt (.O (.O (.O (.O (.I (.I (.I (.O Pos.H)))))))) y := row_at rfl Tryz.func367 (by kernel_rfl) (by kernel_rfl)
theorem at368 : ∀ y, some row368 = some y → RowAt (.I (.O (.O (.O (.I (.I (.I (.O Pos.H)))))))) y := row_at rfl Tryz.func368 (by kernel_rfl) (by kernel_rfl)
theorem at369 : ∀ y, some row369 = some y → RowAt (.O (.I (.O (.O (.I (.I (.I (.O Pos.H)))))))) y := row_at rfl Tryz.func369 (by kernel_rfl) (by kernel_rfl)
theorem at370 : ∀ y, some row370 = some y → RowAt (.I (.I (.O (.O (.I (.I (.I (.O Pos.H)))))))) y := row_at rfl Tryz.func370 (by kernel_rfl) (by kernel_rfl)
theorem at371 : ∀ y, some row371 = some y → RowAt (.O (.O (.I (.O (.I (.I (.I (.O Pos.H)))))))) y := row_at rfl Tryz.func371 (by kernel_rfl) (by kernel_rfl)
theorem at372 : ∀ y, some row372 = some y → RowAt (.I (.O (.I (.O (.I (.I (.I (.O Pos.H)))))))) y := row_at rfl Tryz.func372 (by kernel_rfl) (by kernel_rfl)
theorem at373 : ∀ y, some row373 = some y → RowAt (.O (.I (.I (.O (.I (.I (.I (.O Pos.H)))))))) y := row_at rfl Tryz.func373 (by kernel_rfl) (by kernel_rfl)
theorem at374 : ∀ y, some row374 = some y → RowAt (.I (.I (.I (.O (.I (.I (.I (.O Pos.H)))))))) y := row_at rfl Tryz.func374 (by kernel_rfl) (by kernel_rfl)
theorem at375 : ∀ y, some row375 = some y → RowAt (.O (.O (.O (.I (.I (.I (.I (.O Pos.H)))))))) y := row_at rfl Tryz.func375 (by kernel_rfl) (by kernel_rfl)
theorem at376 : ∀ y, some row376 = some y → RowAt (.I (.O (.O (.I (.I (.I (.I (.O Pos.H)))))))) y := row_at rfl Tryz.func376 (by kernel_rfl) (by kernel_rfl)
theorem at377 : ∀ y, some row377 = some y → RowAt (.O (.I (.O (.I (.I (.I (.I (.O Pos.H)))))))) y := row_at rfl Tryz.func377 (by kernel_rfl) (by kernel_rfl)
theorem at378 : ∀ y, some row378 = some y → RowAt (.I (.I (.O (.I (.I (.I (.I (.O Pos.H)))))))) y := row_at rfl Tryz.func378 (by kernel_rfl) (by kernel_rfl)
theorem at379 : ∀ y, some row379 = some y → RowAt (.O (.O (.I (.I (.I (.I (.I (.O Pos.H)))))))) y := row_at rfl Tryz.func379 (by kernel_rfl) (by kernel_rfl)
theorem at380 : ∀ y, some row380 = some y → RowAt (.I (.O (.I (.I (.I (.I (.I (.O Pos.H)))))))) y := row_at rfl Tryz.func380 (by kernel_rfl) (by kernel_rfl)
theorem at381 : ∀ y, some row381 = some y → RowAt (.O (.I (.I (.I (.I (.I (.I (.O Pos.H)))))))) y := row_at rfl Tryz.func381 (by kernel_rfl) (by kernel_rfl)
theorem at382 : ∀ y, some row382 = some y → RowAt (.I (.I (.I (.I (.I (.I (.I (.O Pos.H)))))))) y := row_at rfl Tryz.func382 (by kernel_rfl) (by kernel_rfl)
theorem at383 : ∀ y, some row383 = some y → RowAt (.O (.O (.O (.O (.O (.O (.O (.I Pos.H)))))))) y := row_at rfl Tryz.func383 (by kernel_rfl) (by kernel_rfl)
theorem at384 : ∀ y, some row384 = some y → RowAt (.I (.O (.O (.O (.O (.O (.O (.I Pos.H)))))))) y := row_at rfl Tryz.func384 (by kernel_rfl) (by kernel_rfl)
theorem at385 : ∀ y, some row385 = some y → RowAt (.O (.I (.O (.O (.O (.O (.O (.I Pos.H)))))))) y := row_at rfl Tryz.func385 (by kernel_rfl) (by kernel_rfl)
theorem at386 : ∀ y, some row386 = some y → RowAt (.I (.I (.O (.O (.O (.O (.O (.I Pos.H)))))))) y := row_at rfl Tryz.func386 (by kernel_rfl) (by kernel_rfl)
theorem at387 : ∀ y, some row387 = some y → RowAt (.O (.O (.I (.O (.O (.O (.O (.I Pos.H)))))))) y := row_at rfl Tryz.func387 (by kernel_rfl) (by kernel_rfl)
theorem at388 : ∀ y, some row388 = some y → RowAt (.I (.O (.I (.O (.O (.O (.O (.I Pos.H)))))))) y := row_at rfl Tryz.func388 (by kernel_rfl) (by kernel_rfl)
theorem at389 : ∀ y, some row389 = some y → RowAt (.O (.I (.I (.O (.O (.O (.O (.I Pos.H)))))))) y := row_at rfl Tryz.func389 (by kernel_rfl) (by kernel_rfl)
theorem at390 : ∀ y, some row390 = some y → RowAt (.I (.I (.I (.O (.O (.O (.O (.I Pos.H)))))))) y := row_at rfl Tryz.func390 (by kernel_rfl) (by kernel_rfl)
theorem at391 : ∀ y, some row391 = some y → RowAt (.O (.O (.O (.I (.O (.O (.O (.I Pos.H)))))))) y := row_at rfl Tryz.func391 (by kernel_rfl) (by kernel_rfl)
theorem at392 : ∀ y, some row392 = some y → RowAt (.I (.O (.O (.I (.O (.O (.O (.I Pos.H)))))))) y := row_at rfl Tryz.func392 (by kernel_rfl) (by kernel_rfl)
theorem at393 : ∀ y, some row393 = some y → RowAt (.O (.I (.O (.I (.O (.O (.O (.I Pos.H)))))))) y := row_at rfl Tryz.func393 (by kernel_rfl) (by kernel_rfl)
theorem at394 : ∀ y, some row394 = some y → RowAt (.I (.I (.O (.I (.O (.O (.O (.I Pos.H)))))))) y := row_at rfl Tryz.func394 (by kernel_rfl) (by kernel_rfl)
theorem at395 : ∀ y, some row395 = some y → RowAt (.O (.O (.I (.I (.O (.O (.O (.I Pos.H)))))))) y := row_at rfl Tryz.func395 (by kernel_rfl) (by kernel_rfl)
theorem at396 : ∀ y, some row396 = some y → RowAt (.I (.O (.I (.I (.O (.O (.O (.I Pos.H)))))))) y := row_at rfl Tryz.func396 (by kernel_rfl) (by kernel_rfl)
theorem at397 : ∀ y, some row397 = some y → RowAt (.O (.I (.I (.I (.O (.O (.O (.I Pos.H)))))))) y := row_at rfl Tryz.func397 (by kernel_rfl) (by kernel_rfl)
theorem at398 : ∀ y, some row398 = some y → RowAt (.I (.I (.I (.I (.O (.O (.O (.I Pos.H)))))))) y := row_at rfl Tryz.func398 (by kernel_rfl) (by kernel_rfl)
theorem at399 : ∀ y, some row399 = some y → RowAt (.O (.O (.O (.O (.I (.O (.O (.I Pos.H)))))))) y := row_at rfl Tryz.func399 (by kernel_rfl) (by kernel_rfl)
theorem at400 : ∀ y, some row400 = some y → RowAt (.I (.O (.O (.O (.I (.O (.O (.I Pos.H)))))))) y := row_at rfl Tryz.func400 (by kernel_rfl) (by kernel_rfl)
theorem at401 : ∀ y, some row401 = some y → RowAt (.O (.I (.O (.O (.I (.O (.O (.I Pos.H)))))))) y := row_at rfl Tryz.func401 (by kernel_rfl) (by kernel_rfl)
theorem at402 : ∀ y, some row402 = some y → RowAt (.I (.I (.O (.O (.I (.O (.O (.I Pos.H)))))))) y := row_at rfl Tryz.func402 (by kernel_rfl) (by kernel_rfl)
theorem at403 : ∀ y, some row403 = some y → RowAt (.O (.O (.I (.O (.I (.O (.O (.I Pos.H)))))))) y := row_at rfl Tryz.func403 (by kernel_rfl) (by kernel_rfl)
theorem at404 : ∀ y, some row404 = some y → RowAt (.I (.O (.I (.O (.I (.O (.O (.I Pos.H)))))))) y := row_at rfl Tryz.func404 (by kernel_rfl) (by kernel_rfl)
theorem at405 : ∀ y, some row405 = some y → RowAt (.O (.I (.I (.O (.I (.O (.O (.I Pos.H)))))))) y := row_at rfl Tryz.func405 (by kernel_rfl) (by kernel_rfl)
theorem at406 : ∀ y, some row406 = some y → RowAt (.I (.I (.I (.O (.I (.O (.O (.I Pos.H)))))))) y := row_at rfl Tryz.func406 (by kernel_rfl) (by kernel_rfl)
theorem at407 : ∀ y, some row407 = some y → RowAt (.O (.O (.O (.I (.I (.O (.O (.I Pos.H)))))))) y := row_at rfl Tryz.func407 (by kernel_rfl) (by kernel_rfl)
theorem at408 : ∀ y, some row408 = some y → RowAt (.I (.O (.O (.I (.I (.O (.O (.I Pos.H)))))))) y := row_at rfl Tryz.func408 (by kernel_rfl) (by kernel_rfl)
theorem at409 : ∀ y, some row409 = some y → RowAt (.O (.I (.O (.I (.I (.O (.O (.I Pos.H)))))))) y := row_at rfl Tryz.func409 (by kernel_rfl) (by kernel_rfl)
theorem at410 : ∀ y, some row410 = some y → RowAt (.I (.I (.O (.I (.I (.O (.O (.I Pos.H)))))))) y := row_at rfl Tryz.func410 (by kernel_rfl) (by kernel_rfl)
theorem at411 : ∀ y, some row411 = some y → RowAt (.O (.O (.I (.I (.I (.O (.O (.I Pos.H)))))))) y := row_at rfl Tryz.func411 (by kernel_rfl) (by kernel_rfl)
theorem at412 : ∀ y, some row412 = some y → RowAt (.I (.O (.I (.I (.I (.O (.O (.I Pos.H)))))))) y := row_at rfl Tryz.func412 (by kernel_rfl) (by kernel_rfl)
theorem at413 : ∀ y, some row413 = some y → RowAt (.O (.I (.I (.I (.I (.O (.O (.I Pos.H)))))))) y := row_at rfl Tryz.func413 (by kernel_rfl) (by kernel_rfl)
theorem at414 : ∀ y, some row414 = some y → RowAt (.I (.I (.I (.I (.I (.O (.O (.I Pos.H)))))))) y := row_at rfl Tryz.func414 (by kernel_rfl) (by kernel_rfl)
theorem at415 : ∀ y, some row415 = some y → RowAt (.O (.O (.O (.O (.O (.I (.O (.I Pos.H)))))))) y := row_at rfl Tryz.func415 (by kernel_rfl) (by kernel_rfl)
theorem at416 : ∀ y, some row416 = some y → RowAt (.I (.O (.O (.O (.O (.I (.O (.I Pos.H)))))))) y := row_at rfl Tryz.func416 (by kernel_rfl) (by kernel_rfl)
theorem at417 : ∀ y, some row417 = some y → RowAt (.O (.I (.O (.O (.O (.I (.O (.I Pos.H)))))))) y := row_at rfl Tryz.func417 (by kernel_rfl) (by kernel_rfl)
theorem at418 : ∀ y, some row418 = some y → RowAt (.I (.I (.O (.O (.O (.I (.O (.I Pos.H)))))))) y := row_at rfl Tryz.func418 (by kernel_rfl) (by kernel_rfl)
theorem at419 : ∀ y, some row419 = some y → RowAt (.O (.O (.I (.O (.O (.I (.O (.I Pos.H)))))))) y := row_at rfl Tryz.func419 (by kernel_rfl) (by kernel_rfl)
theorem at420 : ∀ y, some row420 = some y → RowAt (.I (.O (.I (.O (.O (.I (.O (.I Pos.H)))))))) y := row_at rfl Tryz.func420 (by kernel_rfl) (by kernel_rfl)
theorem at421 : ∀ y, some row421 = some y → RowAt (.O (.I (.I (.O (.O (.I (.O (.I Pos.H)))))))) y := row_at rfl Tryz.func421 (by kernel_rfl) (by kernel_rfl)
theorem at422 : ∀ y, some row422 = some y → RowAt (.I (.I (.I (.O (.O (.I (.O (.I Pos.H)))))))) y := row_at rfl Tryz.func422 (by kernel_rfl) (by kernel_rfl)
theorem at423 : ∀ y, some row423 = some y → RowAt (.O (.O (.O (.I (.O (.I (.O (.I Pos.H)))))))) y := row_at rfl Tryz.func423 (by kernel_rfl) (by kernel_rfl)
theorem at424 : ∀ y, some row424 = some y → RowAt (.I (.O (.O (.I (.O (.I (.O (.I Pos.H)))))))) y := row_at rfl Tryz.func424 (by kernel_rfl) (by kernel_rfl)
theorem at425 : ∀ y, some row425 = some y → RowAt (.O (.I (.O (.I (.O (.I (.O (.I Pos.H)))))))) y := row_at rfl Tryz.func425 (by kernel_rfl) (by kernel_rfl)
theorem at426 : ∀ y, some row426 = some y → RowAt (.I (.I (.O (.I (.O (.I (.O (.I Pos.H)))))))) y := row_at rfl Tryz.func426 (by kernel_rfl) (by kernel_rfl)
theorem at427 : ∀ y, some row427 = some y → RowAt (.O (.O (.I (.I (.O (.I (.O (.I Pos.H)))))))) y := row_at rfl Tryz.func427 (by kernel_rfl) (by kernel_rfl)
theorem at428 : ∀ y, some row428 = some y → RowAt (.I (.O (.I (.I (.O (.I (.O (.I Pos.H)))))))) y := row_at rfl Tryz.func428 (by kernel_rfl) (by kernel_rfl)
theorem at429 : ∀ y, some row429 = some y → RowAt (.O (.I (.I (.I (.O (.I (.O (.I Pos.H)))))))) y := row_at rfl Tryz.func429 (by kernel_rfl) (by kernel_rfl)
theorem at430 : ∀ y, some row430 = some y → RowAt (.I (.I (.I (.I (.O (.I (.O (.I Pos.H)))))))) y := row_at rfl Tryz.func430 (by kernel_rfl) (by kernel_rfl)
theorem at431 : ∀ y, some row431 = some y → RowAt (.O (.O (.O (.O (.I (.I (.O (.I Pos.H)))))))) y := row_at rfl Tryz.func431 (by kernel_rfl) (by kernel_rfl)
theorem at432 : ∀ y, some row432 = some y → RowAt (.I (.O (.O (.O (.I (.I (.O (.I Pos.H)))))))) y := row_at rfl Tryz.func432 (by kernel_rfl) (by kernel_rfl)
theorem at433 : ∀ y, some row433 = some y → RowAt (.O (.I (.O (.O (.I (.I (.O (.I Pos.H)))))))) y := row_at rfl Tryz.func433 (by kernel_rfl) (by kernel_rfl)
theorem at434 : ∀ y, some row434 = some y → RowAt (.I (.I (.O (.O (.I (.I (.O (.I Pos.H)))))))) y := row_at rfl Tryz.func434 (by kernel_rfl) (by kernel_rfl)
theorem at435 : ∀ y, some row435 = some y → RowAt (.O (.O (.I (.O (.I (.I (.O (.I Pos.H)))))))) y := row_at rfl Tryz.func435 (by kernel_rfl) (by kernel_rfl)
theorem at436 : ∀ y, some row436 = some y → RowAt (.I (.O (.I (.O (.I (.I (.O (.I Pos.H)))))))) y := row_at rfl Tryz.func436 (by kernel_rfl) (by kernel_rfl)
theorem at437 : ∀ y, some row437 = some y → RowAt (.O (.I (.I (.O (.I (.I (.O (.I Pos.H)))))))) y := row_at rfl Tryz.func437 (by kernel_rfl) (by kernel_rfl)
theorem at438 : ∀ y, some row438 = some y → RowAt (.I (.I (.I (.O (.I (.I (.O (.I Pos.H)))))))) y := row_at rfl Tryz.func438 (by kernel_rfl) (by kernel_rfl)
theorem at439 : ∀ y, some row439 = some y → RowAt (.O (.O (.O (.I (.I (.I (.O (.I Pos.H)))))))) y := row_at rfl Tryz.func439 (by kernel_rfl) (by kernel_rfl)
theorem at440 : ∀ y, some row440 = some y → RowAt (.I (.O (.O (.I (.I (.I (.O (.I Pos.H)))))))) y := row_at rfl Tryz.func440 (by kernel_rfl) (by kernel_rfl)
theorem at441 : ∀ y, some row441 = some y → RowAt (.O (.I (.O (.I (.I (.I (.O (.I Pos.H)))))))) y := row_at rfl Tryz.func441 (by kernel_rfl) (by kernel_rfl)
theorem at442 : ∀ y, some row442 = some y → RowAt (.I (.I (.O (.I (.I (.I (.O (.I Pos.H)))))))) y := row_at rfl Tryz.func442 (by kernel_rfl) (by kernel_rfl)
theorem at443 : ∀ y, some row443 = some y → RowAt (.O (.O (.I (.I (.I (.I (.O (.I Pos.H)))))))) y := row_at rfl Tryz.func443 (by kernel_rfl) (by kernel_rfl)
theorem at444 : ∀ y, some row444 = some y → RowAt (.I (.O (.I (.I (.I (.I (.O (.I Pos.H)))))))) y := row_at rfl Tryz.func444 (by kernel_rfl) (by kernel_rfl)
theorem at445 : ∀ y, some row445 = some y → RowAt (.O (.I (.I (.I (.I (.I (.O (.I Pos.H)))))))) y := row_at rfl Tryz.func445 (by kernel_rfl) (by kernel_rfl)
theorem at446 : ∀ y, some row446 = some y → RowAt (.I (.I (.I (.I (.I (.I (.O (.I Pos.H)))))))) y := row_at rfl Tryz.func446 (by kernel_rfl) (by kernel_rfl)
theorem at447 : ∀ y, some row447 = some y → RowAt (.O (.O (.O (.O (.O (.O (.I (.I Pos.H)))))))) y := row_at rfl Tryz.func447 (by kernel_rfl) (by kernel_rfl)
theorem at448 : ∀ y, some row448 = some y → RowAt (.I (.O (.O (.O (.O (.O (.I (.I Pos.H)))))))) y := row_at rfl Tryz.func448 (by kernel_rfl) (by kernel_rfl)
theorem at449 : ∀ y, some row449 = some y → RowAt (.O (.I (.O (.O (.O (.O (.I (.I Pos.H)))))))) y := row_at rfl Tryz.func449 (by kernel_rfl) (by kernel_rfl)
theorem at450 : ∀ y, some row450 = some y → RowAt (.I (.I (.O (.O (.O (.O (.I (.I Pos.H)))))))) y := row_at rfl Tryz.func450 (by kernel_rfl) (by kernel_rfl)
theorem at451 : ∀ y, some row451 = some y → RowAt (.O (.O (.I (.O (.O (.O (.I (.I Pos.H)))))))) y := row_at rfl Tryz.func451 (by kernel_rfl) (by kernel_rfl)
theorem at452 : ∀ y, some row452 = some y → RowAt (.I (.O (.I (.O (.O (.O (.I (.I Pos.H)))))))) y := row_at rfl Tryz.func452 (by kernel_rfl) (by kernel_rfl)
theorem at453 : ∀ y, some row453 = some y → RowAt (.O (.I (.I (.O (.O (.O (.I (.I Pos.H)))))))) y := row_at rfl Tryz.func453 (by kernel_rfl) (by kernel_rfl)
theorem at454 : ∀ y, some row454 = some y → RowAt (.I (.I (.I (.O (.O (.O (.I (.I Pos.H)))))))) y := row_at rfl Tryz.func454 (by kernel_rfl) (by kernel_rfl)
theorem at455 : ∀ y, some row455 = some y → RowAt (.O (.O (.O (.I (.O (.O (.I (.I Pos.H)))))))) y := row_at rfl Tryz.func455 (by kernel_rfl) (by kernel_rfl)
theorem at456 : ∀ y, some row456 = some y → RowAt (.I (.O (.O (.I (.O (.O (.I (.I Pos.H)))))))) y := row_at rfl Tryz.func456 (by kernel_rfl) (by kernel_rfl)
theorem at457 : ∀ y, some row457 = some y → RowAt (.O (.I (.O (.I (.O (.O (.I (.I Pos.H)))))))) y := row_at rfl Tryz.func457 (by kernel_rfl) (by kernel_rfl)
theorem at458 : ∀ y, some row458 = some y → RowAt (.I (.I (.O (.I (.O (.O (.I (.I Pos.H)))))))) y := row_at rfl Tryz.func458 (by kernel_rfl) (by kernel_rfl)
theorem at459 : ∀ y, some row459 = some y → RowAt (.O (.O (.I (.I (.O (.O (.I (.I Pos.H)))))))) y := row_at rfl Tryz.func459 (by kernel_rfl) (by kernel_rfl)
theorem at460 : ∀ y, some row460 = some y → RowAt (.I (.O (.I (.I (.O (.O (.I (.I Pos.H)))))))) y := row_at rfl Tryz.func460 (by kernel_rfl) (by kernel_rfl)
theorem at461 : ∀ y, some row461 = some y → RowAt (.O (.I (.I (.I (.O (.O (.I (.I Pos.H)))))))) y := row_at rfl Tryz.func461 (by kernel_rfl) (by kernel_rfl)
theorem at462 : ∀ y, some row462 = some y → RowAt (.I (.I (.I (.I (.O (.O (.I (.I Pos.H)))))))) y := row_at rfl Tryz.func462 (by kernel_rfl) (by kernel_rfl)
theorem at463 : ∀ y, some row463 = some y → RowAt (.O (.O (.O (.O (.I (.O (.I (.I Pos.H)))))))) y := row_at rfl Tryz.func463 (by kernel_rfl) (by kernel_rfl)
theorem at464 : ∀ y, some row464 = some y → RowAt (.I (.O (.O (.O (.I (.O (.I (.I Pos.H)))))))) y := row_at rfl Tryz.func464 (by kernel_rfl) (by kernel_rfl)
theorem at465 : ∀ y, some row465 = some y → RowAt (.O (.I (.O (.O (.I (.O (.I (.I Pos.H)))))))) y := row_at rfl Tryz.func465 (by kernel_rfl) (by kernel_rfl)
theorem at466 : ∀ y, some row466 = some y → RowAt (.I (.I (.O (.O (.I (.O (.I (.I Pos.H)))))))) y := row_at rfl Tryz.func466 (by kernel_rfl) (by kernel_rfl)
theorem at467 : ∀ y, some row467 = some y → RowAt (.O (.O (.I (.O (.I (.O (.I (.I Pos.H)))))))) y := row_at rfl Tryz.func467 (by kernel_rfl) (by kernel_rfl)
theorem at468 : ∀ y, some row468 = some y → RowAt (.I (.O (.I (.O (.I (.O (.I (.I Pos.H)))))))) y := row_at rfl Tryz.func468 (by kernel_rfl) (by kernel_rfl)
theorem at469 : ∀ y, some row469 = some y → RowAt (.O (.I (.I (.O (.I (.O (.I (.I Pos.H)))))))) y := row_at rfl Tryz.func469 (by kernel_rfl) (by kernel_rfl)
theorem at470 : ∀ y, some row470 = some y → RowAt (.I (.I (.I (.O (.I (.O (.I (.I Pos.H)))))))) y := row_at rfl Tryz.func470 (by kernel_rfl) (by kernel_rfl)
theorem at471 : ∀ y, some row471 = some y → RowAt (.O (.O (.O (.I (.I (.O (.I (.I Pos.H)))))))) y := row_at rfl Tryz.func471 (by kernel_rfl) (by kernel_rfl)
theorem at472 : ∀ y, some row472 = some y → RowAt (.I (.O (.O (.I (.I (.O (.I (.I Pos.H)))))))) y := row_at rfl Tryz.func472 (by kernel_rfl) (by kernel_rfl)
theorem at473 : ∀ y, some row473 = some y → RowAt (.O (.I (.O (.I (.I (.O (.I (.I Pos.H)))))))) y := row_at rfl Tryz.func473 (by kernel_rfl) (by kernel_rfl)
theorem at474 : ∀ y, some row474 = some y → RowAt (.I (.I (.O (.I (.I (.O (.I (.I Pos.H)))))))) y := row_at rfl Tryz.func474 (by kernel_rfl) (by kernel_rfl)
theorem at475 : ∀ y, some row475 = some y → RowAt (.O (.O (.I (.I (.I (.O (.I (.I Pos.H)))))))) y := row_at rfl Tryz.func475 (by kernel_rfl) (by kernel_rfl)
theorem at476 : ∀ y, some row476 = some y → RowAt (.I (.O (.I (.I (.I (.O (.I (.I Pos.H)))))))) y := row_at rfl Tryz.func476 (by kernel_rfl) (by kernel_rfl)
theorem at477 : ∀ y, some row477 = some y → RowAt (.O (.I (.I (.I (.I (.O (.I (.I Pos.H)))))))) y := row_at rfl Tryz.func477 (by kernel_rfl) (by kernel_rfl)
theorem at478 : ∀ y, some row478 = some y → RowAt (.I (.I (.I (.I (.I (.O (.I (.I Pos.H)))))))) y := row_at rfl Tryz.func478 (by kernel_rfl) (by kernel_rfl)
theorem at479 : ∀ y, some row479 = some y → RowAt (.O (.O (.O (.O (.O (.I (.I (.I Pos.H)))))))) y := row_at rfl Tryz.func479 (by kernel_rfl) (by kernel_rfl)
theorem at480 : ∀ y, some row480 = some y → RowAt (.I (.O (.O (.O (.O (.I (.I (.I Pos.H)))))))) y := row_at rfl Tryz.func480 (by kernel_rfl) (by kernel_rfl)
theorem at481 : ∀ y, some row481 = some y → RowAt (.O (.I (.O (.O (.O (.I (.I (.I Pos.H)))))))) y := row_at rfl Tryz.func481 (by kernel_rfl) (by kernel_rfl)
theorem at482 : ∀ y, some row482 = some y → RowAt (.I (.I (.O (.O (.O (.I (.I (.I Pos.H)))))))) y := row_at rfl Tryz.func482 (by kernel_rfl) (by kernel_rfl)
theorem at483 : ∀ y, some row483 = some y → RowAt (.O (.O (.I (.O (.O (.I (.I (.I Pos.H)))))))) y := row_at rfl Tryz.func483 (by kernel_rfl) (by kernel_rfl)
theorem at484 : ∀ y, some row484 = some y → RowAt (.I (.O (.I (.O (.O (.I (.I (.I Pos.H)))))))) y := row_at rfl Tryz.func484 (by kernel_rfl) (by kernel_rfl)
theorem at485 : ∀ y, some row485 = some y → RowAt (.O (.I (.I (.O (.O (.I (.I (.I Pos.H)))))))) y := row_at rfl Tryz.func485 (by kernel_rfl) (by kernel_rfl)
theorem at486 : ∀ y, some row486 = some y → RowAt (.I (.I (.I (.O (.O (.I (.I (.I Pos.H)))))))) y := row_at rfl Tryz.func486 (by kernel_rfl) (by kernel_rfl)
theorem at487 : ∀ y, some row487 = some y → RowAt (.O (.O (.O (.I (.O (.I (.I (.I Pos.H)))))))) y := row_at rfl Tryz.func487 (by kernel_rfl) (by kernel_rfl)
theorem at488 : ∀ y, some row488 = some y → RowAt (.I (.O (.O (.I (.O (.I (.I (.I Pos.H)))))))) y := row_at rfl Tryz.func488 (by kernel_rfl) (by kernel_rfl)
theorem at489 : ∀ y, some row489 = some y → RowAt (.O (.I (.O (.I (.O (.I (.I (.I Pos.H)))))))) y := row_at rfl Tryz.func489 (by kernel_rfl) (by kernel_rfl)
theorem at490 : ∀ y, some row490 = some y → RowAt (.I (.I (.O (.I (.O (.I (.I (.I Pos.H)))))))) y := row_at rfl Tryz.func490 (by kernel_rfl) (by kernel_rfl)
theorem at491 : ∀ y, some row491 = some y → RowAt (.O (.O (.I (.I (.O (.I (.I (.I Pos.H)))))))) y := row_at rfl Tryz.func491 (by kernel_rfl) (by kernel_rfl)
theorem at492 : ∀ y, some row492 = some y → RowAt (.I (.O (.I (.I (.O (.I (.I (.I Pos.H)))))))) y := row_at rfl Tryz.func492 (by kernel_rfl) (by kernel_rfl)
theorem at493 : ∀ y, some row493 = some y → RowAt (.O (.I (.I (.I (.O (.I (.I (.I Pos.H)))))))) y := row_at rfl Tryz.func493 (by kernel_rfl) (by kernel_rfl)
theorem at494 : ∀ y, some row494 = some y → RowAt (.I (.I (.I (.I (.O (.I (.I (.I Pos.H)))))))) y := row_at rfl Tryz.func494 (by kernel_rfl) (by kernel_rfl)
theorem at495 : ∀ y, some row495 = some y → RowAt (.O (.O (.O (.O (.I (.I (.I (.I Pos.H)))))))) y := row_at rfl Tryz.func495 (by kernel_rfl) (by kernel_rfl)
theorem at496 : ∀ y, some row496 = some y → RowAt (.I (.O (.O (.O (.I (.I (.I (.I Pos.H)))))))) y := row_at rfl Tryz.func496 (by kernel_rfl) (by kernel_rfl)
theorem at497 : ∀ y, some row497 = some y → RowAt (.O (.I (.O (.O (.I (.I (.I (.I Pos.H)))))))) y := row_at rfl Tryz.func497 (by kernel_rfl) (by kernel_rfl)
theorem at498 : ∀ y, some row498 = some y → RowAt (.I (.I (.O (.O (.I (.I (.I (.I Pos.H)))))))) y := row_at rfl Tryz.func498 (by kernel_rfl) (by kernel_rfl)
theorem at499 : ∀ y, some row499 = some y → RowAt (.O (.O (.I (.O (.I (.I (.I (.I Pos.H)))))))) y := row_at rfl Tryz.func499 (by kernel_rfl) (by kernel_rfl)
theorem at500 : ∀ y, some row500 = some y → RowAt (.I (.O (.I (.O (.I (.I (.I (.I Pos.H)))))))) y := row_at rfl Tryz.func500 (by kernel_rfl) (by kernel_rfl)
theorem at501 : ∀ y, some row501 = some y → RowAt (.O (.I (.I (.O (.I (.I (.I (.I Pos.H)))))))) y := row_at rfl Tryz.func501 (by kernel_rfl) (by kernel_rfl)
theorem at502 : ∀ y, some row502 = some y → RowAt (.I (.I (.I (.O (.I (.I (.I (.I Pos.H)))))))) y := row_at rfl Tryz.func502 (by kernel_rfl) (by kernel_rfl)
theorem at503 : ∀ y, some row503 = some y → RowAt (.O (.O (.O (.I (.I (.I (.I (.I Pos.H)))))))) y := row_at rfl Tryz.func503 (by kernel_rfl) (by kernel_rfl)
theorem at504 : ∀ y, some row504 = some y → RowAt (.I (.O (.O (.I (.I (.I (.I (.I Pos.H)))))))) y := row_at rfl Tryz.func504 (by kernel_rfl) (by kernel_rfl)
theorem at505 : ∀ y, some row505 = some y → RowAt (.O (.I (.O (.I (.I (.I (.I (.I Pos.H)))))))) y := row_at rfl Tryz.func505 (by kernel_rfl) (by kernel_rfl)
theorem at506 : ∀ y, some row506 = some y → RowAt (.I (.I (.O (.I (.I (.I (.I (.I Pos.H)))))))) y := row_at rfl Tryz.func506 (by kernel_rfl) (by kernel_rfl)
theorem at507 : ∀ y, some row507 = some y → RowAt (.O (.O (.I (.I (.I (.I (.I (.I Pos.H)))))))) y := row_at rfl Tryz.func507 (by kernel_rfl) (by kernel_rfl)
theorem at508 : ∀ y, some row508 = some y → RowAt (.I (.O (.I (.I (.I (.I (.I (.I Pos.H)))))))) y := row_at rfl Tryz.func508 (by kernel_rfl) (by kernel_rfl)
theorem at509 : ∀ y, some row509 = some y → RowAt (.O (.I (.I (.I (.I (.I (.I (.I Pos.H)))))))) y := row_at rfl Tryz.func509 (by kernel_rfl) (by kernel_rfl)
theorem at510 : ∀ y, some row510 = some y → RowAt (.I (.I (.I (.I (.I (.I (.I (.I Pos.H)))))))) y := row_at rfl Tryz.func510 (by kernel_rfl) (by kernel_rfl)
theorem at511 : ∀ y, some row511 = some y → RowAt (.O (.O (.O (.O (.O (.O (.O (.O (.O Pos.H))))))))) y := row_at rfl Tryz.func511 (by kernel_rfl) (by kernel_rfl)
theorem at512 : ∀ y, some row512 = some y → RowAt (.I (.O (.O (.O (.O (.O (.O (.O (.O Pos.H))))))))) y := row_at rfl Tryz.func512 (by kernel_rfl) (by kernel_rfl)
theorem at513 : ∀ y, some row513 = some y → RowAt (.O (.I (.O (.O (.O (.O (.O (.O (.O Pos.H))))))))) y := row_at rfl Tryz.func513 (by kernel_rfl) (by kernel_rfl)
theorem at514 : ∀ y, some row514 = some y → RowAt (.I (.I (.O (.O (.O (.O (.O (.O (.O Pos.H))))))))) y := row_at rfl Tryz.func514 (by kernel_rfl) (by kernel_rfl)
theorem at515 : ∀ y, some row515 = some y → RowAt (.O (.O (.I (.O (.O (.O (.O (.O (.O Pos.H))))))))) y := row_at rfl Tryz.func515 (by kernel_rfl) (by kernel_rfl)
theorem at516 : ∀ y, some row516 = some y → RowAt (.I (.O (.I (.O (.O (.O (.O (.O (.O Pos.H))))))))) y := row_at rfl Tryz.func516 (by kernel_rfl) (by kernel_rfl)
theorem at517 : ∀ y, some row517 = some y → RowAt (.O (.I (.I (.O (.O (.O (.O (.O (.O Pos.H))))))))) y := row_at rfl Tryz.func517 (by kernel_rfl) (by kernel_rfl)
theorem at518 : ∀ y, some row518 = some y → RowAt (.I (.I (.I (.O (.O (.O (.O (.O (.O Pos.H))))))))) y := row_at rfl Tryz.func518 (by kernel_rfl) (by kernel_rfl)
theorem at519 : ∀ y, some row519 = some y → RowAt (.O (.O (.O (.I (.O (.O (.O (.O (.O Pos.H))))))))) y := row_at rfl Tryz.func519 (by kernel_rfl) (by kernel_rfl)
theorem at520 : ∀ y, some row520 = some y → RowAt (.I (.O (.O (.I (.O (.O (.O (.O (.O Pos.H))))))))) y := row_at rfl Tryz.func520 (by kernel_rfl) (by kernel_rfl)
theorem at521 : ∀ y, some row521 = some y → RowAt (.O (.I (.O (.I (.O (.O (.O (.O (.O Pos.H))))))))) y := row_at rfl Tryz.func521 (by kernel_rfl) (by kernel_rfl)
theorem at522 : ∀ y, some row522 = some y → RowAt (.I (.I (.O (.I (.O (.O (.O (.O (.O Pos.H))))))))) y := row_at rfl Tryz.func522 (by kernel_rfl) (by kernel_rfl)
theorem at523 : ∀ y, some row523 = some y → RowAt (.O (.O (.I (.I (.O (.O (.O (.O (.O Pos.H))))))))) y := row_at rfl Tryz.func523 (by kernel_rfl) (by kernel_rfl)
theorem at524 : ∀ y, some row524 = some y → RowAt (.I (.O (.I (.I (.O (.O (.O (.O (.O Pos.H))))))))) y := row_at rfl Tryz.func524 (by kernel_rfl) (by kernel_rfl)
theorem at525 : ∀ y, some row525 = some y → RowAt (.O (.I (.I (.I (.O (.O (.O (.O (.O Pos.H))))))))) y := row_at rfl Tryz.func525 (by kernel_rfl) (by kernel_rfl)
theorem at526 : ∀ y, some row526 = some y → RowAt (.I (.I (.I (.I (.O (.O (.O (.O (.O Pos.H))))))))) y := row_at rfl Tryz.func526 (by kernel_rfl) (by kernel_rfl)
theorem at527 : ∀ y, some row527 = some y → RowAt (.O (.O (.O (.O (.I (.O (.O (.O (.O Pos.H))))))))) y := row_at rfl Tryz.func527 (by kernel_rfl) (by kernel_rfl)
theorem at528 : ∀ y, some row528 = some y → RowAt (.I (.O (.O (.O (.I (.O (.O (.O (.O Pos.H))))))))) y := row_at rfl Tryz.func528 (by kernel_rfl) (by kernel_rfl)
theorem at529 : ∀ y, some row529 = some y → RowAt (.O (.I (.O (.O (.I (.O (.O (.O (.O Pos.H))))))))) y := row_at rfl Tryz.func529 (by kernel_rfl) (by kernel_rfl)
theorem at530 : ∀ y, some row530 = some y → RowAt (.I (.I (.O (.O (.I (.O (.O (.O (.O Pos.H))))))))) y := row_at rfl Tryz.func530 (by kernel_rfl) (by kernel_rfl)
theorem at531 : ∀ y, some row531 = some y → RowAt (.O (.O (.I (.O (.I (.O (.O (.O (.O Pos.H))))))))) y := row_at rfl Tryz.func531 (by kernel_rfl) (by kernel_rfl)
theorem at532 : ∀ y, some row532 = some y → RowAt (.I (.O (.I (.O (.I (.O (.O (.O (.O Pos.H))))))))) y := row_at rfl Tryz.func532 (by kernel_rfl) (by kernel_rfl)
theorem at533 : ∀ y, some row533 = some y → RowAt (.O (.I (.I (.O (.I (.O (.O (.O (.O Pos.H))))))))) y := row_at rfl Tryz.func533 (by kernel_rfl) (by kernel_rfl)
theorem at534 : ∀ y, some row534 = some y → RowAt (.I (.I (.I (.O (.I (.O (.O (.O (.O Pos.H))))))))) y := row_at rfl Tryz.func534 (by kernel_rfl) (by kernel_rfl)
theorem at535 : ∀ y, some row535 = some y → RowAt (.O (.O (.O (.I (.I (.O (.O (.O (.O Pos.H))))))))) y := row_at rfl Tryz.func535 (by kernel_rfl) (by kernel_rfl)
theorem at536 : ∀ y, some row536 = some y → RowAt (.I (.O (.O (.I (.I (.O (.O (.O (.O Pos.H))))))))) y := row_at rfl Tryz.func536 (by kernel_rfl) (by kernel_rfl)
theorem at537 : ∀ y, some row537 = some y → RowAt (.O (.I (.O (.I (.I (.O (.O (.O (.O Pos.H))))))))) y := row_at rfl Tryz.func537 (by kernel_rfl) (by kernel_rfl)
theorem at538 : ∀ y, some row538 = some y → RowAt (.I (.I (.O (.I (.I (.O (.O (.O (.O Pos.H))))))))) y := row_at rfl Tryz.func538 (by kernel_rfl) (by kernel_rfl)
theorem at539 : ∀ y, some row539 = some y → RowAt (.O (.O (.I (.I (.I (.O (.O (.O (.O Pos.H))))))))) y := row_at rfl Tryz.func539 (by kernel_rfl) (by kernel_rfl)
theorem at540 : ∀ y, some row540 = some y → RowAt (.I (.O (.I (.I (.I (.O (.O (.O (.O Pos.H))))))))) y := row_at rfl Tryz.func540 (by kernel_rfl) (by kernel_rfl)
theorem at541 : ∀ y, some row541 = some y → RowAt (.O (.I (.I (.I (.I (.O (.O (.O (.O Pos.H))))))))) y := row_at rfl Tryz.func541 (by kernel_rfl) (by kernel_rfl)
theorem at542 : ∀ y, some row542 = some y → RowAt (.I (.I (.I (.I (.I (.O (.O (.O (.O Pos.H))))))))) y := row_at rfl Tryz.func542 (by kernel_rfl) (by kernel_rfl)
theorem at543 : ∀ y, some row543 = some y → RowAt (.O (.O (.O (.O (.O (.I (.O (.O (.O Pos.H))))))))) y := row_at rfl Tryz.func543 (by kernel_rfl) (by kernel_rfl)
theorem at544 : ∀ y, some row544 = some y → RowAt (.I (.O (.O (.O (.O (.I (.O (.O (.O Pos.H))))))))) y := row_at rfl Tryz.func544 (by kernel_rfl) (by kernel_rfl)
theorem at545 : ∀ y, some row545 = some y → RowAt (.O (.I (.O (.O (.O (.I (.O (.O (.O Pos.H))))))))) y := row_at rfl Tryz.func545 (by kernel_rfl) (by kernel_rfl)
theorem at546 : ∀ y, some row546 = some y → RowAt (.I (.I (.O (.O (.O (.I (.O (.O (.O Pos.H))))))))) y := row_at rfl Tryz.func546 (by kernel_rfl) (by kernel_rfl)
theorem at547 : ∀ y, some row547 = some y → RowAt (.O (.O (.I (.O (.O (.I (.O (.O (.O Pos.H))))))))) y := row_at rfl Tryz.func547 (by kernel_rfl) (by kernel_rfl)
theorem at548 : ∀ y, some row548 = some y → RowAt (.I (.O (.I (.O (.O (.I (.O (.O (.O Pos.H))))))))) y := row_at rfl Tryz.func548 (by kernel_rfl) (by kernel_rfl)
theorem at549 : ∀ y, some row549 = some y → RowAt (.O (.I (.I (.O (.O (.I (.O (.O (.O Pos.H))))))))) y := row_at rfl Tryz.func549 (by kernel_rfl) (by kernel_rfl)
theorem at550 : ∀ y, some row550 = some y → RowAt (.I (.I (.I (.O (.O (.I (.O (.O (.O Pos.H))))))))) y := row_at rfl Tryz.func550 (by kernel_rfl) (by kernel_rfl)
theorem at551 : ∀ y, some row551 = some y → RowAt (.O (.O (.O (.I (.O (.I (.O (.O (.O Pos.H))))))))) y := row_at rfl Tryz.func551 (by kernel_rfl) (by kernel_rfl)
theorem at552 : ∀ y, some row552 = some y → RowAt (.I (.O (.O (.I (.O (.I (.O (.O (.O Pos.H))))))))) y := row_at rfl Tryz.func552 (by kernel_rfl) (by kernel_rfl)
theorem at553 : ∀ y, some row553 = some y → RowAt (.O (.I (.O (.I (.O (.I (.O (.O (.O Pos.H))))))))) y := row_at rfl Tryz.func553 (by kernel_rfl) (by kernel_rfl)
theorem at554 : ∀ y, some row554 = some y → RowAt (.I (.I (.O (.I (.O (.I (.O (.O (.O Pos.H))))))))) y := row_at rfl Tryz.func554 (by kernel_rfl) (by kernel_rfl)
theorem at555 : ∀ y, some row555 = some y → RowAt (.O (.O (.I (.I (.O (.I (.O (.O (.O Pos.H))))))))) y := row_at rfl Tryz.func555 (by kernel_rfl) (by kernel_rfl)
theorem at556 : ∀ y, some row556 = some y → RowAt (.I (.O (.I (.I (.O (.I (.O (.O (.O Pos.H))))))))) y := row_at rfl Tryz.func556 (by kernel_rfl) (by kernel_rfl)
theorem at557 : ∀ y, some row557 = some y → RowAt (.O (.I (.I (.I (.O (.I (.O (.O (.O Pos.H))))))))) y := row_at rfl Tryz.func557 (by kernel_rfl) (by kernel_rfl)
theorem at558 : ∀ y, some row558 = some y → RowAt (.I (.I (.I (.I (.O (.I (.O (.O (.O Pos.H))))))))) y := row_at rfl Tryz.func558 (by kernel_rfl) (by kernel_rfl)
theorem at559 : ∀ y, some row559 = some y → RowAt (.O (.O (.O (.O (.I (.I (.O (.O (.O Pos.H))))))))) y := row_at rfl Tryz.func559 (by kernel_rfl) (by kernel_rfl)
theorem at560 : ∀ y, some row560 = some y → RowAt (.I (.O (.O (.O (.I (.I (.O (.O (.O Pos.H))))))))) y := row_at rfl Tryz.func560 (by kernel_rfl) (by kernel_rfl)
theorem at561 : ∀ y, some row561 = some y → RowAt (.O (.I (.O (.O (.I (.I (.O (.O (.O Pos.H))))))))) y := row_at rfl Tryz.func561 (by kernel_rfl) (by kernel_rfl)
theorem at562 : ∀ y, some row562 = some y → RowAt (.I (.I (.O (.O (.I (.I (.O (.O (.O Pos.H))))))))) y := row_at rfl Tryz.func562 (by kernel_rfl) (by kernel_rfl)
theorem at563 : ∀ y, some row563 = some y → RowAt (.O (.O (.I (.O (.I (.I (.O (.O (.O Pos.H))))))))) y := row_at rfl Tryz.func563 (by kernel_rfl) (by kernel_rfl)
theorem at564 : ∀ y, some row564 = some y → RowAt (.I (.O (.I (.O (.I (.I (.O (.O (.O Pos.H))))))))) y := row_at rfl Tryz.func564 (by kernel_rfl) (by kernel_rfl)
theorem at565 : ∀ y, some row565 = some y → RowAt (.O (.I (.I (.O (.I (.I (.O (.O (.O Pos.H))))))))) y := row_at rfl Tryz.func565 (by kernel_rfl) (by kernel_rfl)
theorem at566 : ∀ y, some row566 = some y → RowAt (.I (.I (.I (.O (.I (.I (.O (.O (.O Pos.H))))))))) y := row_at rfl Tryz.func566 (by kernel_rfl) (by kernel_rfl)
theorem at567 : ∀ y, some row567 = some y → RowAt (.O (.O (.O (.I (.I (.I (.O (.O (.O Pos.H))))))))) y := row_at rfl Tryz.func567 (by kernel_rfl) (by kernel_rfl)
theorem at568 : ∀ y, some row568 = some y → RowAt (.I (.O (.O (.I (.I (.I (.O (.O (.O Pos.H))))))))) y := row_at rfl Tryz.func568 (by kernel_rfl) (by kernel_rfl)
theorem at569 : ∀ y, some row569 = some y → RowAt (.O (.I (.O (.I (.I (.I (.O (.O (.O Pos.H))))))))) y := row_at rfl Tryz.func569 (by kernel_rfl) (by kernel_rfl)
theorem at570 : ∀ y, some row570 = some y → RowAt (.I (.I (.O (.I (.I (.I (.O (.O (.O Pos.H))))))))) y := row_at rfl Tryz.func570 (by kernel_rfl) (by kernel_rfl)
theorem at571 : ∀ y, some row571 = some y → RowAt (.O (.O (.I (.I (.I (.I (.O (.O (.O Pos.H))))))))) y := row_at rfl Tryz.func571 (by kernel_rfl) (by kernel_rfl)
theorem at572 : ∀ y, some row572 = some y → RowAt (.I (.O (.I (.I (.I (.I (.O (.O (.O Pos.H))))))))) y := row_at rfl Tryz.func572 (by kernel_rfl) (by kernel_rfl)
theorem at573 : ∀ y, some row573 = some y → RowAt (.O (.I (.I (.I (.I (.I (.O (.O (.O Pos.H))))))))) y := row_at rfl Tryz.func573 (by kernel_rfl) (by kernel_rfl)
theorem at574 : ∀ y, some row574 = some y → RowAt (.I (.I (.I (.I (.I (.I (.O (.O (.O Pos.H))))))))) y := row_at rfl Tryz.func574 (by kernel_rfl) (by kernel_rfl)
theorem at575 : ∀ y, some row575 = some y → RowAt (.O (.O (.O (.O (.O (.O (.I (.O (.O Pos.H))))))))) y := row_at rfl Tryz.func575 (by kernel_rfl) (by kernel_rfl)
theorem at576 : ∀ y, some row576 = some y → RowAt (.I (.O (.O (.O (.O (.O (.I (.O (.O Pos.H))))))))) y := row_at rfl Tryz.func576 (by kernel_rfl) (by kernel_rfl)
theorem at577 : ∀ y, some row577 = some y → RowAt (.O (.I (.O (.O (.O (.O (.I (.O (.O Pos.H))))))))) y := row_at rfl Tryz.func577 (by kernel_rfl) (by kernel_rfl)
theorem at578 : ∀ y, some row578 = some y → RowAt (.I (.I (.O (.O (.O (.O (.I (.O (.O Pos.H))))))))) y := row_at rfl Tryz.func578 (by kernel_rfl) (by kernel_rfl)
theorem at579 : ∀ y, some row579 = some y → RowAt (.O (.O (.I (.O (.O (.O (.I (.O (.O Pos.H))))))))) y := row_at rfl Tryz.func579 (by kernel_rfl) (by kernel_rfl)
theorem at580 : ∀ y, some row580 = some y → RowAt (.I (.O (.I (.O (.O (.O (.I (.O (.O Pos.H))))))))) y := row_at rfl Tryz.func580 (by kernel_rfl) (by kernel_rfl)
theorem at581 : ∀ y, some row581 = some y → RowAt (.O (.I (.I (.O (.O (.O (.I (.O (.O Pos.H))))))))) y := row_at rfl Tryz.func581 (by kernel_rfl) (by kernel_rfl)
theorem at582 : ∀ y, some row582 = some y → RowAt (.I (.I (.I (.O (.O (.O (.I (.O (.O Pos.H))))))))) y := row_at rfl Tryz.func582 (by kernel_rfl) (by kernel_rfl)
theorem at583 : ∀ y, some row583 = some y → RowAt (.O (.O (.O (.I (.O (.O (.I (.O (.O Pos.H))))))))) y := row_at rfl Tryz.func583 (by kernel_rfl) (by kernel_rfl)
theorem at584 : ∀ y, some row584 = some y → RowAt (.I (.O (.O (.I (.O (.O (.I (.O (.O Pos.H))))))))) y := row_at rfl Tryz.func584 (by kernel_rfl) (by kernel_rfl)
theorem at585 : ∀ y, some row585 = some y → RowAt (.O (.I (.O (.I (.O (.O (.I (.O (.O Pos.H))))))))) y := row_at rfl Tryz.func585 (by kernel_rfl) (by kernel_rfl)
theorem at586 : ∀ y, some row586 = some y → RowAt (.I (.I (.O (.I (.O (.O (.I (.O (.O Pos.H))))))))) y := row_at rfl Tryz.func586 (by kernel_rfl) (by kernel_rfl)
theorem at587 : ∀ y, some row587 = some y → RowAt (.O (.O (.I (.I (.O (.O (.I (.O (.O Pos.H))))))))) y := row_at rfl Tryz.func587 (by kernel_rfl) (by kernel_rfl)
theorem at588 : ∀ y, some row588 = some y → RowAt (.I (.O (.I (.I (.O (.O (.I (.O (.O Pos.H))))))))) y := row_at rfl Tryz.func588 (by kernel_rfl) (by kernel_rfl)
theorem at589 : ∀ y, some row589 = some y → RowAt (.O (.I (.I (.I (.O (.O (.I (.O (.O Pos.H))))))))) y := row_at rfl Tryz.func589 (by kernel_rfl) (by kernel_rfl)
theorem at590 : ∀ y, some row590 = some y → RowAt (.I (.I (.I (.I (.O (.O (.I (.O (.O Pos.H))))))))) y := row_at rfl Tryz.func590 (by kernel_rfl) (by kernel_rfl)
theorem at591 : ∀ y, some row591 = some y → RowAt (.O (.O (.O (.O (.I (.O (.I (.O (.O Pos.H))))))))) y := row_at rfl Tryz.func591 (by kernel_rfl) (by kernel_rfl)
theorem at592 : ∀ y, some row592 = some y → RowAt (.I (.O (.O (.O (.I (.O (.I (.O (.O Pos.H))))))))) y := row_at rfl Tryz.func592 (by kernel_rfl) (by kernel_rfl)
theorem at593 : ∀ y, some row593 = some y → RowAt (.O (.I (.O (.O (.I (.O (.I (.O (.O Pos.H))))))))) y := row_at rfl Tryz.func593 (by kernel_rfl) (by kernel_rfl)
theorem at594 : ∀ y, some row594 = some y → RowAt (.I (.I (.O (.O (.I (.O (.I (.O (.O Pos.H))))))))) y := row_at rfl Tryz.func594 (by kernel_rfl) (by kernel_rfl)
theorem at595 : ∀ y, some row595 = some y → RowAt (.O (.O (.I (.O (.I (.O (.I (.O (.O Pos.H))))))))) y := row_at rfl Tryz.func595 (by kernel_rfl) (by kernel_rfl)
theorem at596 : ∀ y, some row596 = some y → RowAt (.I (.O (.I (.O (.I (.O (.I (.O (.O Pos.H))))))))) y := row_at rfl Tryz.func596 (by kernel_rfl) (by kernel_rfl)
theorem at597 : ∀ y, some row597 = some y → RowAt (.O (.I (.I (.O (.I (.O (.I (.O (.O Pos.H))))))))) y := row_at rfl Tryz.func597 (by kernel_rfl) (by kernel_rfl)
theorem at598 : ∀ y, some row598 = some y → RowAt (.I (.I (.I (.O (.I (.O (.I (.O (.O Pos.H))))))))) y := row_at rfl Tryz.func598 (by kernel_rfl) (by kernel_rfl)
theorem at599 : ∀ y, some row599 = some y → RowAt (.O (.O (.O (.I (.I (.O (.I (.O (.O Pos.H))))))))) y := row_at rfl Tryz.func599 (by kernel_rfl) (by kernel_rfl)
theorem at600 : ∀ y, some row600 = some y → RowAt (.I (.O (.O (.I (.I (.O (.I (.O (.O Pos.H))))))))) y := row_at rfl Tryz.func600 (by kernel_rfl) (by kernel_rfl)
theorem at601 : ∀ y, some row601 = some y → RowAt (.O (.I (.O (.I (.I (.O (.I (.O (.O Pos.H))))))))) y := row_at rfl Tryz.func601 (by kernel_rfl) (by kernel_rfl)
theorem at602 : ∀ y, some row602 = some y → RowAt (.I (.I (.O (.I (.I (.O (.I (.O (.O Pos.H))))))))) y := row_at rfl Tryz.func602 (by kernel_rfl) (by kernel_rfl)
theorem at603 : ∀ y, some row603 = some y → RowAt (.O (.O (.I (.I (.I (.O (.I (.O (.O Pos.H))))))))) y := row_at rfl Tryz.func603 (by kernel_rfl) (by kernel_rfl)
theorem at604 : ∀ y, some row604 = some y → RowAt (.I (.O (.I (.I (.I (.O (.I (.O (.O Pos.H))))))))) y := row_at rfl Tryz.func604 (by kernel_rfl) (by kernel_rfl)
theorem at605 : ∀ y, some row605 = some y → RowAt (.O (.I (.I (.I (.I (.O (.I (.O (.O Pos.H))))))))) y := row_at rfl Tryz.func605 (by kernel_rfl) (by kernel_rfl)
theorem at606 : ∀ y, some row606 = some y → RowAt (.I (.I (.I (.I (.I (.O (.I (.O (.O Pos.H))))))))) y := row_at rfl Tryz.func606 (by kernel_rfl) (by kernel_rfl)
theorem at607 : ∀ y, some row607 = some y → RowAt (.O (.O (.O (.O (.O (.I (.I (.O (.O Pos.H))))))))) y := row_at rfl Tryz.func607 (by kernel_rfl) (by kernel_rfl)
theorem at608 : ∀ y, some row608 = some y → RowAt (.I (.O (.O (.O (.O (.I (.I (.O (.O Pos.H))))))))) y := row_at rfl Tryz.func608 (by kernel_rfl) (by kernel_rfl)
theorem at609 : ∀ y, some row609 = some y → RowAt (.O (.I (.O (.O (.O (.I (.I (.O (.O Pos.H))))))))) y := row_at rfl Tryz.func609 (by kernel_rfl) (by kernel_rfl)
theorem at610 : ∀ y, some row610 = some y → RowAt (.I (.I (.O (.O (.O (.I (.I (.O (.O Pos.H))))))))) y := row_at rfl Tryz.func610 (by kernel_rfl) (by kernel_rfl)
theorem at611 : ∀ y, some row611 = some y → RowAt (.O (.O (.I (.O (.O (.I (.I (.O (.O Pos.H))))))))) y := row_at rfl Tryz.func611 (by kernel_rfl) (by kernel_rfl)
theorem at612 : ∀ y, some row612 = some y → RowAt (.I (.O (.I (.O (.O (.I (.I (.O (.O Pos.H))))))))) y := row_at rfl Tryz.func612 (by kernel_rfl) (by kernel_rfl)
theorem at613 : ∀ y, some row613 = some y → RowAt (.O (.I (.I (.O (.O (.I (.I (.O (.O Pos.H))))))))) y := row_at rfl Tryz.func613 (by kernel_rfl) (by kernel_rfl)
theorem at614 : ∀ y, some row614 = some y → RowAt (.I (.I (.I (.O (.O (.I (.I (.O (.O Pos.H))))))))) y := row_at rfl Tryz.func614 (by kernel_rfl) (by kernel_rfl)
theorem at615 : ∀ y, some row615 = some y → RowAt (.O (.O (.O (.I (.O (.I (.I (.O (.O Pos.H))))))))) y := row_at rfl Tryz.func615 (by kernel_rfl) (by kernel_rfl)
theorem at616 : ∀ y, some row616 = some y → RowAt (.I (.O (.O (.I (.O (.I (.I (.O (.O Pos.H))))))))) y := row_at rfl Tryz.func616 (by kernel_rfl) (by kernel_rfl)
theorem at617 : ∀ y, some row617 = some y → RowAt (.O (.I (.O (.I (.O (.I (.I (.O (.O Pos.H))))))))) y := row_at rfl Tryz.func617 (by kernel_rfl) (by kernel_rfl)
theorem at618 : ∀ y, some row618 = some y → RowAt (.I (.I (.O (.I (.O (.I (.I (.O (.O Pos.H))))))))) y := row_at rfl Tryz.func618 (by kernel_rfl) (by kernel_rfl)
theorem at619 : ∀ y, some row619 = some y → RowAt (.O (.O (.I (.I (.O (.I (.I (.O (.O Pos.H))))))))) y := row_at rfl Tryz.func619 (by kernel_rfl) (by kernel_rfl)
theorem at620 : ∀ y, some row620 = some y → RowAt (.I (.O (.I (.I (.O (.I (.I (.O (.O Pos.H))))))))) y := row_at rfl Tryz.func620 (by kernel_rfl) (by kernel_rfl)
theorem at621 : ∀ y, some row621 = some y → RowAt (.O (.I (.I (.I (.O (.I (.I (.O (.O Pos.H))))))))) y := row_at rfl Tryz.func621 (by kernel_rfl) (by kernel_rfl)
theorem at622 : ∀ y, some row622 = some y → RowAt (.I (.I (.I (.I (.O (.I (.I (.O (.O Pos.H))))))))) y := row_at rfl Tryz.func622 (by kernel_rfl) (by kernel_rfl)
theorem at623 : ∀ y, some row623 = some y → RowAt (.O (.O (.O (.O (.I (.I (.I (.O (.O Pos.H))))))))) y := row_at rfl Tryz.func623 (by kernel_rfl) (by kernel_rfl)
theorem at624 : ∀ y, some row624 = some y → RowAt (.I (.O (.O (.O (.I (.I (.I (.O (.O Pos.H))))))))) y := row_at rfl Tryz.func624 (by kernel_rfl) (by kernel_rfl)
theorem at625 : ∀ y, some row625 = some y → RowAt (.O (.I (.O (.O (.I (.I (.I (.O (.O Pos.H))))))))) y := row_at rfl Tryz.func625 (by kernel_rfl) (by kernel_rfl)
theorem at626 : ∀ y, some row626 = some y → RowAt (.I (.I (.O (.O (.I (.I (.I (.O (.O Pos.H))))))))) y := row_at rfl Tryz.func626 (by kernel_rfl) (by kernel_rfl)
theorem at627 : ∀ y, some row627 = some y → RowAt (.O (.O (.I (.O (.I (.I (.I (.O (.O Pos.H))))))))) y := row_at rfl Tryz.func627 (by kernel_rfl) (by kernel_rfl)
theorem at628 : ∀ y, some row628 = some y → RowAt (.I (.O (.I (.O (.I (.I (.I (.O (.O Pos.H))))))))) y := row_at rfl Tryz.func628 (by kernel_rfl) (by kernel_rfl)
theorem at629 : ∀ y, some row629 = some y → RowAt (.O (.I (.I (.O (.I (.I (.I (.O (.O Pos.H))))))))) y := row_at rfl Tryz.func629 (by kernel_rfl) (by kernel_rfl)
theorem at630 : ∀ y, some row630 = some y → RowAt (.I (.I (.I (.O (.I (.I (.I (.O (.O Pos.H))))))))) y := row_at rfl Tryz.func630 (by kernel_rfl) (by kernel_rfl)
theorem at631 : ∀ y, some row631 = some y → RowAt (.O (.O (.O (.I (.I (.I (.I (.O (.O Pos.H))))))))) y := row_at rfl Tryz.func631 (by kernel_rfl) (by kernel_rfl)
noncomputable def tabR : T FRow := (.node (.node (.node (.node (.node (.node (.node (.node (.node (.node .leaf (some row511) .leaf) (some row255) .leaf) (some row127) (.node .leaf (some row383) .leaf)) (some row63) (.node (.node (.node .leaf (some row575) .leaf) (some row319) .leaf) (some row191) (.node .leaf (some row447) .leaf))) (some row31) (.node (.node (.node (.node .leaf (some row543) .leaf) (some row287) .leaf) (some row159) (.node .leaf (some row415) .leaf)) (some row95) (.node (.node (.node .leaf (some row607) .leaf) (some row351) .leaf) (some row223) (.node .leaf (some row479) .leaf)))) (some row15) (.node (.node (.node (.node (.node .leaf (some row527) .leaf) (some row271) .leaf) (some row143) (.node .leaf (some row399) .leaf)) (some row79) (.node (.node (.node .leaf (some row591) .leaf) (some row335) .leaf) (some row207) (.node .leaf (some row463) .leaf))) (some row47) (.node (.node (.node (.node .leaf (some row559) .leaf) (some row303) .leaf) (some row175) (.node .leaf (some row431) .leaf)) (some row111) (.node (.node (.node .leaf (some row623) .leaf) (some row367) .leaf) (some row239) (.node .leaf (some row495) .leaf))))) (some row7) (.node (.node (.node (.node (.node (.node .leaf (some row519) .leaf) (some row263) .leaf) (some row135) (.node .leaf (some row391) .leaf)) (some row71) (.node (.node (.node .leaf (some row583) .leaf) (some row327) .leaf) (some row199) (.node .leaf (some row455) .leaf))) (some row39) (.node (.node (.node (.node .leaf (some row551) .leaf) (some row295) .leaf) (some row167) (.node .leaf (some row423) .leaf)) (some row103) (.node (.node (.node .leaf (some row615) .leaf) (some row359) .leaf) (some row231) (.node .leaf (some row487) .leaf)))) (some row23) (.node (.node (.node (.node (.node .leaf (some row535) .leaf) (some row279) .leaf) (some row151) (.node .leaf (some row407) .leaf)) (some row87) (.node (.node (.node .leaf (some row599) .leaf) (some row343) .leaf) (some row215) (.node .leaf (some row471) .leaf))) (some row55) (.node (.node (.node (.node .leaf (some row567) .leaf) (some row311) .leaf) (some row183) (.node .leaf (some row439) .leaf)) (some row119) (.node (.node (.node .leaf (some row631) .leaf) (some row375) .leaf) (some row247) (.node .leaf (some row503) .leaf)))))) (some row3) (.node (.node (.node (.node (.node (.node (.node .leaf (some row515) .leaf) (some row259) .leaf) (some row131) (.node .leaf (some row387) .leaf)) (some row67) (.node (.node (.node .leaf (some row579) .leaf) (some row323) .leaf) (some row195) (.node .leaf (some row451) .leaf))) (some row35) (.node (.node (.node (.node .leaf (some row547) .leaf) (some row291) .leaf) (some row163) (.node .leaf (some row419) .leaf)) (some row99) (.node (.node (.node .leaf (some row611) .leaf) (some row355) .leaf) (some row227) (.node .leaf (some row483) .leaf)))) (some row19) (.node (.node (.node (.node (.node .leaf (some row531) .leaf) (some row275) .leaf) (some row147) (.node .leaf (some row403) .leaf)) (some row83) (.node (.node (.node .leaf (some row595) .leaf) (some row339) .leaf) (some row211) (.node .leaf (some row467) .leaf))) (some row51) (.node (.node (.node (.node .leaf (some row563) .leaf) (some row307) .leaf) (some row179) (.node .leaf (some row435) .leaf)) (some row115) (.node (.node (.node .leaf (some row627) .leaf) (some row371) .leaf) (some row243) (.node .leaf (some row499) .leaf))))) (some row11) (.node (.node (.node (.node (.node (.node .leaf (some row523) .leaf) (some row267) .leaf) (some row139) (.node .leaf (some row395) .leaf)) (some row75) (.node (.node (.node .leaf (some row587) .leaf) (some row331) .leaf) (some row203) (.node .leaf (some row459) .leaf))) (some row43) (.node (.node (.node (.node .leaf (some row555) .leaf) (some row299) .leaf) (some row171) (.node .leaf (some row427) .leaf)) (some row107) (.node (.node (.node .leaf (some row619) .leaf) (some row363) .leaf) (some row235) (.node .leaf (some row491) .leaf)))) (some row27) (.node (.node (.node (.node (.node .leaf (some row539) .leaf) (some row283) .leaf) (some row155) (.node .leaf (some row411) .leaf)) (some row91) (.node (.node (.node .leaf (some row603) .leaf) (some row347) .leaf) (some row219) (.node .leaf (some row475) .leaf))) (some row59) (.node (.node (.node (.node .leaf (some row571) .leaf) (some row315) .leaf) (some row187) (.node .leaf (some row443) .leaf)) (some row123) (.node (.node .leaf (some row379) .leaf) (some row251) (.node .leaf (some row507) .leaf))))))) (some row1) (.node (.node (.node (.node (.node (.node (.node (.node .leaf (some row513) .leaf) (some row257) .leaf) (some row129) (.node .leaf (some row385) .leaf)) (some row65) (.node (.node (.node .leaf (some row577) .leaf) (some row321) .leaf) (some row193) (.node .leaf (some row449) .leaf))) (some row33) (.node (.node (.node (.node .leaf (some row545) .leaf) (some row289) .leaf) (some row161) (.node .leaf (some row417) .leaf)) (some row97) (.node (.node (.node .leaf (some row609) .leaf) (some row353) .leaf) (some row225) (.node .leaf (some row481) .leaf)))) (some row17) (.node (.node (.node (.node (.node .leaf (some row529) .leaf) (some row273) .leaf) (some row145) (.node .leaf (some row401) .leaf)) (some row81) (.node (.node (.node .leaf (some row593) .leaf) (some row337) .leaf) (some row209) (.node .leaf (some row465) .leaf))) (some row49) (.node (.node (.node (.node .leaf (some row561) .leaf) (some row305) .leaf) (some row177) (.node .leaf (some row433) .leaf)) (some row113) (.node (.node (.node .leaf (some row625) .leaf) (some row369) .leaf) (some row241) (.node .leaf (some row497) .leaf))))) (some row9) (.node (.node (.node (.node (.node (.node .leaf (some row521) .leaf) (some row265) .leaf) (some row137) (.node .leaf (some row393) .leaf)) (some row73) (.node (.node (.node .leaf (some row585) .leaf) (some row329) .leaf) (some row201) (.node .leaf (some row457) .leaf))) (some row41) (.node (.node (.node (.node .leaf (some row553) .leaf) (some row297) .leaf) (some row169) (.node .leaf (some row425) .leaf)) (some row105) (.node (.node (.node .leaf (some row617) .leaf) (some row361) .leaf) (some row233) (.node .leaf (some row489) .leaf)))) (some row25) (.node (.node (.node (.node (.node .leaf (some row537) .leaf) (some row281) .leaf) (some row153) (.node .leaf (some row409) .leaf)) (some row89) (.node (.node (.node .leaf (some row601) .leaf) (some row345) .leaf) (some row217) (.node .leaf (some row473) .leaf))) (some row57) (.node (.node (.node (.node .leaf (some row569) .leaf) (some row313) .leaf) (some row185) (.node .leaf (some row441) .leaf)) (some row121) (.node (.node .leaf (some row377) .leaf) (some row249) (.node .leaf (some row505) .leaf)))))) (some row5) (.node (.node (.node (.node (.node (.node (.node .leaf (some row517) .leaf) (some row261) .leaf) (some row133) (.node .leaf (some row389) .leaf)) (some row69) (.node (.node (.node .leaf (some row581) .leaf) (some row325) .leaf) (some row197) (.node .leaf (some row453) .leaf))) (some row37) (.node (.node (.node (.node .leaf (some row549) .leaf) (some row293) .leaf) (some row165) (.node .leaf (some row421) .leaf)) (some row101) (.node (.node (.node .leaf (some row613) .leaf) (some row357) .leaf) (some row229) (.node .leaf (some row485) .leaf)))) (some row21) (.node (.node (.node (.node (.node .leaf (some row533) .leaf) (some row277) .leaf) (some row149) (.node .leaf (some row405) .leaf)) (some row85) (.node (.node (.node .leaf (some row597) .leaf) (some row341) .leaf) (some row213) (.node .leaf (some row469) .leaf))) (some row53) (.node (.node (.node (.node .leaf (some row565) .leaf) (some row309) .leaf) (some row181) (.node .leaf (some row437) .leaf)) (some row117) (.node (.node (.node .leaf (some row629) .leaf) (some row373) .leaf) (some row245) (.node .leaf (some row501) .leaf))))) (some row13) (.node (.node (.node (.node (.node (.node .leaf (some row525) .leaf) (some row269) .leaf) (some row141) (.node .leaf (some row397) .leaf)) (some row77) (.node (.node (.node .leaf (some row589) .leaf) (some row333) .leaf) (some row205) (.node .leaf (some row461) .leaf))) (some row45) (.node (.node (.node (.node .leaf (some row557) .leaf) (some row301) .leaf) (some row173) (.node .leaf (some row429) .leaf)) (some row109) (.node (.node (.node .leaf (some row621) .leaf) (some row365) .leaf) (some row237) (.node .leaf (some row493) .leaf)))) (some row29) (.node (.node (.node (.node (.node .leaf (some row541) .leaf) (some row285) .leaf) (some row157) (.node .leaf (some row413) .leaf)) (some row93) (.node (.node (.node .leaf (some row605) .leaf) (some row349) .leaf) (some row221) (.node .leaf (some row477) .leaf))) (some row61) (.node (.node (.node (.node .leaf (some row573) .leaf) (some row317) .leaf) (some row189) (.node .leaf (some row445) .leaf)) (some row125) (.node (.node .leaf (some row381) .leaf) (some row253) (.node .leaf (some row509) .leaf)))))))) (some row0) (.node (.node (.node (.node (.node (.node (.node (.node (.node .leaf (some row512) .leaf) (some row256) .leaf) (some row128) (.node .leaf (some row384) .leaf)) (some row64) (.node (.node (.node .leaf (some row576) .leaf) (some row320) .leaf) (some row192) (.node .leaf (some row448) .leaf))) (some row32) (.node (.node (.node (.node .leaf (some row544) .leaf) (some row288) .leaf) (some row160) (.node .leaf (some row416) .leaf)) (some row96) (.node (.node (.node .leaf (some row608) .leaf) (some row352) .leaf) (some row224) (.node .leaf (some row480) .leaf)))) (some row16) (.node (.node (.node (.node (.node .leaf (some row528) .leaf) (some row272) .leaf) (some row144) (.node .leaf (some row400) .leaf)) (some row80) (.node (.node (.node .leaf (some row592) .leaf) (some row336) .leaf) (some row208) (.node .leaf (some row464) .leaf))) (some row48) (.node (.node (.node (.node .leaf (some row560) .leaf) (some row304) .leaf) (some row176) (.node .leaf (some row432) .leaf)) (some row112) (.node (.node (.node .leaf (some row624) .leaf) (some row368) .leaf) (some row240) (.node .leaf (some row496) .leaf))))) (some row8) (.node (.node (.node (.node (.node (.node .leaf (some row520) .leaf) (some row264) .leaf) (some row136) (.node .leaf (some row392) .leaf)) (some row72) (.node (.node (.node .leaf (some row584) .leaf) (some row328) .leaf) (some row200) (.node .leaf (some row456) .leaf))) (some row40) (.node (.node (.node (.node .leaf (some row552) .leaf) (some row296) .leaf) (some row168) (.node .leaf (some row424) .leaf)) (some row104) (.node (.node (.node .leaf (some row616) .leaf) (some row360) .leaf) (some row232) (.node .leaf (some row488) .leaf)))) (some row24) (.node (.node (.node (.node (.node .leaf (some row536) .leaf) (some row280) .leaf) (some row152) (.node .leaf (some row408) .leaf)) (some row88) (.node (.node (.node .leaf (some row600) .leaf) (some row344) .leaf) (some row216) (.node .leaf (some row472) .leaf))) (some row56) (.node (.node (.node (.node .leaf (some row568) .leaf) (some row312) .leaf) (some row184) (.node .leaf (some row440) .leaf)) (some row120) (.node (.node .leaf (some row376) .leaf) (some row248) (.node .leaf (some row504) .leaf)))))) (some row4) (.node (.node (.node (.node (.node (.node (.node .leaf (some row516) .leaf) (some row260) .leaf) (some row132) (.node .leaf (some row388) .leaf)) (some row68) (.node (.node (.node .leaf (some row580) .leaf) (some row324) .leaf) (some row196) (.node .leaf (some row452) .leaf))) (some row36) (.node (.node (.node (.node .leaf (some row548) .leaf) (some row292) .leaf) (some row164) (.node .leaf (some row420) .leaf)) (some row100) (.node (.node (.node .leaf (some row612) .leaf) (some row356) .leaf) (some row228) (.node .leaf (some row484) .leaf)))) (some row20) (.node (.node (.node (.node (.node .leaf (some row532) .leaf) (some row276) .leaf) (some row148) (.node .leaf (some row404) .leaf)) (some row84) (.node (.node (.node .leaf (some row596) .leaf) (some row340) .leaf) (some row212) (.node .leaf (some row468) .leaf))) (some row52) (.node (.node (.node (.node .leaf (some row564) .leaf) (some row308) .leaf) (some row180) (.node .leaf (some row436) .leaf)) (some row116) (.node (.node (.node .leaf (some row628) .leaf) (some row372) .leaf) (some row244) (.node .leaf (some row500) .leaf))))) (some row12) (.node (.node (.node (.node (.node (.node .leaf (some row524) .leaf) (some row268) .leaf) (some row140) (.node .leaf (some row396) .leaf)) (some row76) (.node (.node (.node .leaf (some row588) .leaf) (some row332) .leaf) (some row204) (.node .leaf (some row460) .leaf))) (some row44) (.node (.node (.node (.node .leaf (some row556) .leaf) (some row300) .leaf) (some row172) (.node .leaf (some row428) .leaf)) (some row108) (.node (.node (.node .leaf (some row620) .leaf) (some row364) .leaf) (some row236) (.node .leaf (some row492) .leaf)))) (some row28) (.node (.node (.node (.node (.node .leaf (some row540) .leaf) (some row284) .leaf) (some row156) (.node .leaf (some row412) .leaf)) (some row92) (.node (.node (.node .leaf (some row604) .leaf) (some row348) .leaf) (some row220) (.node .leaf (some row476) .leaf))) (some row60) (.node (.node (.node (.node .leaf (some row572) .leaf) (some row316) .leaf) (some row188) (.node .leaf (some row444) .leaf)) (some row124) (.node (.node .leaf (some row380) .leaf) (some row252) (.node .leaf (some row508) .leaf))))))) (some row2) (.node (.node (.node (.node (.node (.node (.node (.node .leaf (some row514) .leaf) (some row258) .leaf) (some row130) (.node .leaf (some row386) .leaf)) (some row66) (.node (.node (.node .leaf (some row578) .leaf) (some row322) .leaf) (some row194) (.node .leaf (some row450) .leaf))) (some row34) (.node (.node (.node (.node .leaf (some row546) .leaf) (some row290) .leaf) (some row162) (.node .leaf (some row418) .leaf)) (some row98) (.node (.node (.node .leaf (some row610) .leaf) (some row354) .leaf) (some row226) (.node .leaf (some row482) .leaf)))) (some row18) (.node (.node (.node (.node (.node .leaf (some row530) .leaf) (some row274) .leaf) (some row146) (.node .leaf (some row402) .leaf)) (some row82) (.node (.node (.node .leaf (some row594) .leaf) (some row338) .leaf) (some row210) (.node .leaf (some row466) .leaf))) (some row50) (.node (.node (.node (.node .leaf (some row562) .leaf) (some row306) .leaf) (some row178) (.node .leaf (some row434) .leaf)) (some row114) (.node (.node (.node .leaf (some row626) .leaf) (some row370) .leaf) (some row242) (.node .leaf (some row498) .leaf))))) (some row10) (.node (.node (.node (.node (.node (.node .leaf (some row522) .leaf) (some row266) .leaf) (some row138) (.node .leaf (some row394) .leaf)) (some row74) (.node (.node (.node .leaf (some row586) .leaf) (some row330) .leaf) (some row202) (.node .leaf (some row458) .leaf))) (some row42) (.node (.node (.node (.node .leaf (some row554) .leaf) (some row298) .leaf) (some row170) (.node .leaf (some row426) .leaf)) (some row106) (.node (.node (.node .leaf (some row618) .leaf) (some row362) .leaf) (some row234) (.node .leaf (some row490) .leaf)))) (some row26) (.node (.node (.node (.node (.node .leaf (some row538) .leaf) (some row282) .leaf) (some row154) (.node .leaf (some row410) .leaf)) (some row90) (.node (.node (.node .leaf (some row602) .leaf) (some row346) .leaf) (some row218) (.node .leaf (some row474) .leaf))) (some row58) (.node (.node (.node (.node .leaf (some row570) .leaf) (some row314) .leaf) (some row186) (.node .leaf (some row442) .leaf)) (some row122) (.node (.node .leaf (some row378) .leaf) (some row250) (.node .leaf (some row506) .leaf)))))) (some row6) (.node (.node (.node (.node (.node (.node (.node .leaf (some row518) .leaf) (some row262) .leaf) (some row134) (.node .leaf (some row390) .leaf)) (some row70) (.node (.node (.node .leaf (some row582) .leaf) (some row326) .leaf) (some row198) (.node .leaf (some row454) .leaf))) (some row38) (.node (.node (.node (.node .leaf (some row550) .leaf) (some row294) .leaf) (some row166) (.node .leaf (some row422) .leaf)) (some row102) (.node (.node (.node .leaf (some row614) .leaf) (some row358) .leaf) (some row230) (.node .leaf (some row486) .leaf)))) (some row22) (.node (.node (.node (.node (.node .leaf (some row534) .leaf) (some row278) .leaf) (some row150) (.node .leaf (some row406) .leaf)) (some row86) (.node (.node (.node .leaf (some row598) .leaf) (some row342) .leaf) (some row214) (.node .leaf (some row470) .leaf))) (some row54) (.node (.node (.node (.node .leaf (some row566) .leaf) (some row310) .leaf) (some row182) (.node .leaf (some row438) .leaf)) (some row118) (.node (.node (.node .leaf (some row630) .leaf) (some row374) .leaf) (some row246) (.node .leaf (some row502) .leaf))))) (some row14) (.node (.node (.node (.node (.node (.node .leaf (some row526) .leaf) (some row270) .leaf) (some row142) (.node .leaf (some row398) .leaf)) (some row78) (.node (.node (.node .leaf (some row590) .leaf) (some row334) .leaf) (some row206) (.node .leaf (some row462) .leaf))) (some row46) (.node (.node (.node (.node .leaf (some row558) .leaf) (some row302) .leaf) (some row174) (.node .leaf (some row430) .leaf)) (some row110) (.node (.node (.node .leaf (some row622) .leaf) (some row366) .leaf) (some row238) (.node .leaf (some row494) .leaf)))) (some row30) (.node (.node (.node (.node (.node .leaf (some row542) .leaf) (some row286) .leaf) (some row158) (.node .leaf (some row414) .leaf)) (some row94) (.node (.node (.node .leaf (some row606) .leaf) (some row350) .leaf) (some row222) (.node .leaf (some row478) .leaf))) (some row62) (.node (.node (.node (.node .leaf (some row574) .leaf) (some row318) .leaf) (some row190) (.node .leaf (some row446) .leaf)) (some row126) (.node (.node .leaf (some row382) .leaf) (some row254) (.node .leaf (some row510) .leaf)))))))))
theorem tabR_all : rowsAll tabR RowAt := ⟨at0, ⟨at1, ⟨at3, ⟨at7, ⟨at15, ⟨at31, ⟨at63, ⟨at127, ⟨at255, ⟨at511, trivial, trivial⟩, trivial⟩, ⟨at383, trivial, trivial⟩⟩, ⟨at191, ⟨at319, ⟨at575, trivial, trivial⟩, trivial⟩, ⟨at447, trivial, trivial⟩⟩⟩, ⟨at95, ⟨at159, ⟨at287, ⟨at543, trivial, trivial⟩, trivial⟩, ⟨at415, trivial, trivial⟩⟩, ⟨at223, ⟨at351, ⟨at607, trivial, trivial⟩, trivial⟩, ⟨at479, trivial, trivial⟩⟩⟩⟩, ⟨at47, ⟨at79, ⟨at143, ⟨at271, ⟨at527, trivial, trivial⟩, trivial⟩, ⟨at399, trivial, trivial⟩⟩, ⟨at207, ⟨at335, ⟨at591, trivial, trivial⟩, trivial⟩, ⟨at463, trivial, trivial⟩⟩⟩, ⟨at111, ⟨at175, ⟨at303, ⟨at559, trivial, trivial⟩, trivial⟩, ⟨at431, trivial, trivial⟩⟩, ⟨at239, ⟨at367, ⟨at623, trivial, trivial⟩, trivial⟩, ⟨at495, trivial, trivial⟩⟩⟩⟩⟩, ⟨at23, ⟨at39, ⟨at71, ⟨at135, ⟨at263, ⟨at519, trivial, trivial⟩, trivial⟩, ⟨at391, trivial, trivial⟩⟩, ⟨at199, ⟨at327, ⟨at583, trivial, trivial⟩, trivial⟩, ⟨at455, trivial, trivial⟩⟩⟩, ⟨at103, ⟨at167, ⟨at295, ⟨at551, trivial, trivial⟩, trivial⟩, ⟨at423, trivial, trivial⟩⟩, ⟨at231, ⟨at359, ⟨at615, trivial, trivial⟩, trivial⟩, ⟨at487, trivial, trivial⟩⟩⟩⟩, ⟨at55, ⟨at87, ⟨at151, ⟨at279, ⟨at535, trivial, trivial⟩, trivial⟩, ⟨at407, trivial, trivial⟩⟩, ⟨at215, ⟨at343, ⟨at599, trivial, trivial⟩, trivial⟩, ⟨at471, trivial, trivial⟩⟩⟩, ⟨at119, ⟨at183, ⟨at311, ⟨at567, trivial, trivial⟩, trivial⟩, ⟨at439, trivial, trivial⟩⟩, ⟨at247, ⟨at375, ⟨at631, trivial, trivial⟩, trivial⟩, ⟨at503, trivial, trivial⟩⟩⟩⟩⟩⟩, ⟨at11, ⟨at19, ⟨at35, ⟨at67, ⟨at131, ⟨at259, ⟨at515, trivial, trivial⟩, trivial⟩, ⟨at387, trivial, trivial⟩⟩, ⟨at195, ⟨at323, ⟨at579, trivial, trivial⟩, trivial⟩, ⟨at451, trivial, trivial⟩⟩⟩, ⟨at99, ⟨at163, ⟨at291, ⟨at547, trivial, trivial⟩, trivial⟩, ⟨at419, trivial, trivial⟩⟩, ⟨at227, ⟨at355, ⟨at611, trivial, trivial⟩, trivial⟩, ⟨at483, trivial, trivial⟩⟩⟩⟩, ⟨at51, ⟨at83, ⟨at147, ⟨at275, ⟨at531, trivial, trivial⟩, trivial⟩, ⟨at403, trivial, trivial⟩⟩, ⟨at211, ⟨at339, ⟨at595, trivial, trivial⟩, trivial⟩, ⟨at467, trivial, trivial⟩⟩⟩, ⟨at115, ⟨at179, ⟨at307, ⟨at563, trivial, trivial⟩, trivial⟩, ⟨at435, trivial, trivial⟩⟩, ⟨at243, ⟨at371, ⟨at627, trivial, trivial⟩, trivial⟩, ⟨at499, trivial, trivial⟩⟩⟩⟩⟩, ⟨at27, ⟨at43, ⟨at75, ⟨at139, ⟨at267, ⟨at523, trivial, trivial⟩, trivial⟩, ⟨at395, trivial, trivial⟩⟩, ⟨at203, ⟨at331, ⟨at587, trivial, trivial⟩, trivial⟩, ⟨at459, trivial, trivial⟩⟩⟩, ⟨at107, ⟨at171, ⟨at299, ⟨at555, trivial, trivial⟩, trivial⟩, ⟨at427, trivial, trivial⟩⟩, ⟨at235, ⟨at363, ⟨at619, trivial, trivial⟩, trivial⟩, ⟨at491, trivial, trivial⟩⟩⟩⟩, ⟨at59, ⟨at91, ⟨at155, ⟨at283, ⟨at539, trivial, trivial⟩, trivial⟩, ⟨at411, trivial, trivial⟩⟩, ⟨at219, ⟨at347, ⟨at603, trivial, trivial⟩, trivial⟩, ⟨at475, trivial, trivial⟩⟩⟩, ⟨at123, ⟨at187, ⟨at315, ⟨at571, trivial, trivial⟩, trivial⟩, ⟨at443, trivial, trivial⟩⟩, ⟨at251, ⟨at379, trivial, trivial⟩, ⟨at507, trivial, trivial⟩⟩⟩⟩⟩⟩⟩, ⟨at5, ⟨at9, ⟨at17, ⟨at33, ⟨at65, ⟨at129, ⟨at257, ⟨at513, trivial, trivial⟩, trivial⟩, ⟨at385, trivial, trivial⟩⟩, ⟨at193, ⟨at321, ⟨at577, trivial, trivial⟩, trivial⟩, ⟨at449, trivial, trivial⟩⟩⟩, ⟨at97, ⟨at161, ⟨at289, ⟨at545, trivial, trivial⟩, trivial⟩, ⟨at417, trivial, trivial⟩⟩, ⟨at225, ⟨at353, ⟨at609, trivial, trivial⟩, trivial⟩, ⟨at481, trivial, trivial⟩⟩⟩⟩, ⟨at49, ⟨at81, ⟨at145, ⟨at273, ⟨at529, trivial, trivial⟩, trivial⟩, ⟨at401, trivial, trivial⟩⟩, ⟨at209, ⟨at337, ⟨at593, trivial, trivial⟩, trivial⟩, ⟨at465, trivial, trivial⟩⟩⟩, ⟨at113, ⟨at177, ⟨at305, ⟨at561, trivial, trivial⟩, trivial⟩, ⟨at433, trivial, trivial⟩⟩, ⟨at241, ⟨at369, ⟨at625, trivial, trivial⟩, trivial⟩, ⟨at497, trivial, trivial⟩⟩⟩⟩⟩, ⟨at25, ⟨at41, ⟨at73, ⟨at137, ⟨at265, ⟨at521, trivial, trivial⟩, trivial⟩, ⟨at393, trivial, trivial⟩⟩, ⟨at201, ⟨at329, ⟨at585, trivial, trivial⟩, trivial⟩, ⟨at457, trivial, trivial⟩⟩⟩, ⟨at105, ⟨at169, ⟨at297, ⟨at553, trivial, trivial⟩, trivial⟩, ⟨at425, trivial, trivial⟩⟩, ⟨at233, ⟨at361, ⟨at617, trivial, trivial⟩, trivial⟩, ⟨at489, trivial, trivial⟩⟩⟩⟩, ⟨at57, ⟨at89, ⟨at153, ⟨at281, ⟨at537, trivial, trivial⟩, trivial⟩, ⟨at409, trivial, trivial⟩⟩, ⟨at217, ⟨at345, ⟨at601, trivial, trivial⟩, trivial⟩, ⟨at473, trivial, trivial⟩⟩⟩, ⟨at121, ⟨at185, ⟨at313, ⟨at569, trivial, trivial⟩, trivial⟩, ⟨at441, trivial, trivial⟩⟩, ⟨at249, ⟨at377, trivial, trivial⟩, ⟨at505, trivial, trivial⟩⟩⟩⟩⟩⟩, ⟨at13, ⟨at21, ⟨at37, ⟨at69, ⟨at133, ⟨at261, ⟨at517, trivial, trivial⟩, trivial⟩, ⟨at389, trivial, trivial⟩⟩, ⟨at197, ⟨at325, ⟨at581, trivial, trivial⟩, trivial⟩, ⟨at453, trivial, trivial⟩⟩⟩, ⟨at101, ⟨at165, ⟨at293, ⟨at549, trivial, trivial⟩, trivial⟩, ⟨at421, trivial, trivial⟩⟩, ⟨at229, ⟨at357, ⟨at613, trivial, trivial⟩, trivial⟩, ⟨at485, trivial, trivial⟩⟩⟩⟩, ⟨at53, ⟨at85, ⟨at149, ⟨at277, ⟨at533, trivial, trivial⟩, trivial⟩, ⟨at405, trivial, trivial⟩⟩, ⟨at213, ⟨at341, ⟨at597, trivial, trivial⟩, trivial⟩, ⟨at469, trivial, trivial⟩⟩⟩, ⟨at117, ⟨at181, ⟨at309, ⟨at565, trivial, trivial⟩, trivial⟩, ⟨at437, trivial, trivial⟩⟩, ⟨at245, ⟨at373, ⟨at629, trivial, trivial⟩, trivial⟩, ⟨at501, trivial, trivial⟩⟩⟩⟩⟩, ⟨at29, ⟨at45, ⟨at77, ⟨at141, ⟨at269, ⟨at525, trivial, trivial⟩, trivial⟩, ⟨at397, trivial, trivial⟩⟩, ⟨at205, ⟨at333, ⟨at589, trivial, trivial⟩, trivial⟩, ⟨at461, trivial, trivial⟩⟩⟩, ⟨at109, ⟨at173, ⟨at301, ⟨at557, trivial, trivial⟩, trivial⟩, ⟨at429, trivial, trivial⟩⟩, ⟨at237, ⟨at365, ⟨at621, trivial, trivial⟩, trivial⟩, ⟨at493, trivial, trivial⟩⟩⟩⟩, ⟨at61, ⟨at93, ⟨at157, ⟨at285, ⟨at541, trivial, trivial⟩, trivial⟩, ⟨at413, trivial, trivial⟩⟩, ⟨at221, ⟨at349, ⟨at605, trivial, trivial⟩, trivial⟩, ⟨at477, trivial, trivial⟩⟩⟩, ⟨at125, ⟨at189, ⟨at317, ⟨at573, trivial, trivial⟩, trivial⟩, ⟨at445, trivial, trivial⟩⟩, ⟨at253, ⟨at381, trivial, trivial⟩, ⟨at509, trivial, trivial⟩⟩⟩⟩⟩⟩⟩⟩, ⟨at2, ⟨at4, ⟨at8, ⟨at16, ⟨at32, ⟨at64, ⟨at128, ⟨at256, ⟨at512, trivial, trivial⟩, trivial⟩, ⟨at384, trivial, trivial⟩⟩, ⟨at192, ⟨at320, ⟨at576, trivial, trivial⟩, trivial⟩, ⟨at448, trivial, trivial⟩⟩⟩, ⟨at96, ⟨at160, ⟨at288, ⟨at544, trivial, trivial⟩, trivial⟩, ⟨at416, trivial, trivial⟩⟩, ⟨at224, ⟨at352, ⟨at608, trivial, trivial⟩, trivial⟩, ⟨at480, trivial, trivial⟩⟩⟩⟩, ⟨at48, ⟨at80, ⟨at144, ⟨at272, ⟨at528, trivial, trivial⟩, trivial⟩, ⟨at400, trivial, trivial⟩⟩, ⟨at208, ⟨at336, ⟨at592, trivial, trivial⟩, trivial⟩, ⟨at464, trivial, trivial⟩⟩⟩, ⟨at112, ⟨at176, ⟨at304, ⟨at560, trivial, trivial⟩, trivial⟩, ⟨at432, trivial, trivial⟩⟩, ⟨at240, ⟨at368, ⟨at624, trivial, trivial⟩, trivial⟩, ⟨at496, trivial, trivial⟩⟩⟩⟩⟩, ⟨at24, ⟨at40, ⟨at72, ⟨at136, ⟨at264, ⟨at520, trivial, trivial⟩, trivial⟩, ⟨at392, trivial, trivial⟩⟩, ⟨at200, ⟨at328, ⟨at584, trivial, trivial⟩, trivial⟩, ⟨at456, trivial, trivial⟩⟩⟩, ⟨at104, ⟨at168, ⟨at296, ⟨at552, trivial, trivial⟩, trivial⟩, ⟨at424, trivial, trivial⟩⟩, ⟨at232, ⟨at360, ⟨at616, trivial, trivial⟩, trivial⟩, ⟨at488, trivial, trivial⟩⟩⟩⟩, ⟨at56, ⟨at88, ⟨at152, ⟨at280, ⟨at536, trivial, trivial⟩, trivial⟩, ⟨at408, trivial, trivial⟩⟩, ⟨at216, ⟨at344, ⟨at600, trivial, trivial⟩, trivial⟩, ⟨at472, trivial, trivial⟩⟩⟩, ⟨at120, ⟨at184, ⟨at312, ⟨at568, trivial, trivial⟩, trivial⟩, ⟨at440, trivial, trivial⟩⟩, ⟨at248, ⟨at376, trivial, trivial⟩, ⟨at504, trivial, trivial⟩⟩⟩⟩⟩⟩, ⟨at12, ⟨at20, ⟨at36, ⟨at68, ⟨at132, ⟨at260, ⟨at516, trivial, trivial⟩, trivial⟩, ⟨at388, trivial, trivial⟩⟩, ⟨at196, ⟨at324, ⟨at580, trivial, trivial⟩, trivial⟩, ⟨at452, trivial, trivial⟩⟩⟩, ⟨at100, ⟨at164, ⟨at292, ⟨at548, trivial, trivial⟩, trivial⟩, ⟨at420, trivial, trivial⟩⟩, ⟨at228, ⟨at356, ⟨at612, trivial, trivial⟩, trivial⟩, ⟨at484, trivial, trivial⟩⟩⟩⟩, ⟨at52, ⟨at84, ⟨at148, ⟨at276, ⟨at532, trivial, trivial⟩, trivial⟩, ⟨at404, trivial, trivial⟩⟩, ⟨at212, ⟨at340, ⟨at596, trivial, trivial⟩, trivial⟩, ⟨at468, trivial, trivial⟩⟩⟩, ⟨at116, ⟨at180, ⟨at308, ⟨at564, trivial, trivial⟩, trivial⟩, ⟨at436, trivial, trivial⟩⟩, ⟨at244, ⟨at372, ⟨at628, trivial, trivial⟩, trivial⟩, ⟨at500, trivial, trivial⟩⟩⟩⟩⟩, ⟨at28, ⟨at44, ⟨at76, ⟨at140, ⟨at268, ⟨at524, trivial, trivial⟩, trivial⟩, ⟨at396, trivial, trivial⟩⟩, ⟨at204, ⟨at332, ⟨at588, trivial, trivial⟩, trivial⟩, ⟨at460, trivial, trivial⟩⟩⟩, ⟨at108, ⟨at172, ⟨at300, ⟨at556, trivial, trivial⟩, trivial⟩, ⟨at428, trivial, trivial⟩⟩, ⟨at236, ⟨at364, ⟨at620, trivial, trivial⟩, trivial⟩, ⟨at492, trivial, trivial⟩⟩⟩⟩, ⟨at60, ⟨at92, ⟨at156, ⟨at284, ⟨at540, trivial, trivial⟩, trivial⟩, ⟨at412, trivial, trivial⟩⟩, ⟨at220, ⟨at348, ⟨at604, trivial, trivial⟩, trivial⟩, ⟨at476, trivial, trivial⟩⟩⟩, ⟨at124, ⟨at188, ⟨at316, ⟨at572, trivial, trivial⟩, trivial⟩, ⟨at444, trivial, trivial⟩⟩, ⟨at252, ⟨at380, trivial, trivial⟩, ⟨at508, trivial, trivial⟩⟩⟩⟩⟩⟩⟩, ⟨at6, ⟨at10, ⟨at18, ⟨at34, ⟨at66, ⟨at130, ⟨at258, ⟨at514, trivial, trivial⟩, trivial⟩, ⟨at386, trivial, trivial⟩⟩, ⟨at194, ⟨at322, ⟨at578, trivial, trivial⟩, trivial⟩, ⟨at450, trivial, trivial⟩⟩⟩, ⟨at98, ⟨at162, ⟨at290, ⟨at546, trivial, trivial⟩, trivial⟩, ⟨at418, trivial, trivial⟩⟩, ⟨at226, ⟨at354, ⟨at610, trivial, trivial⟩, trivial⟩, ⟨at482, trivial, trivial⟩⟩⟩⟩, ⟨at50, ⟨at82, ⟨at146, ⟨at274, ⟨at530, trivial, trivial⟩, trivial⟩, ⟨at402, trivial, trivial⟩⟩, ⟨at210, ⟨at338, ⟨at594, trivial, trivial⟩, trivial⟩, ⟨at466, trivial, trivial⟩⟩⟩, ⟨at114, ⟨at178, ⟨at306, ⟨at562, trivial, trivial⟩, trivial⟩, ⟨at434, trivial, trivial⟩⟩, ⟨at242, ⟨at370, ⟨at626, trivial, trivial⟩, trivial⟩, ⟨at498, trivial, trivial⟩⟩⟩⟩⟩, ⟨at26, ⟨at42, ⟨at74, ⟨at138, ⟨at266, ⟨at522, trivial, trivial⟩, trivial⟩, ⟨at394, trivial, trivial⟩⟩, ⟨at202, ⟨at330, ⟨at586, trivial, trivial⟩, trivial⟩, ⟨at458, trivial, trivial⟩⟩⟩, ⟨at106, ⟨at170, ⟨at298, ⟨at554, trivial, trivial⟩, trivial⟩, ⟨at426, trivial, trivial⟩⟩, ⟨at234, ⟨at362, ⟨at618, trivial, trivial⟩, trivial⟩, ⟨at490, trivial, trivial⟩⟩⟩⟩, ⟨at58, ⟨at90, ⟨at154, ⟨at282, ⟨at538, trivial, trivial⟩, trivial⟩, ⟨at410, trivial, trivial⟩⟩, ⟨at218, ⟨at346, ⟨at602, trivial, trivial⟩, trivial⟩, ⟨at474, trivial, trivial⟩⟩⟩, ⟨at122, ⟨at186, ⟨at314, ⟨at570, trivial, trivial⟩, trivial⟩, ⟨at442, trivial, trivial⟩⟩, ⟨at250, ⟨at378, trivial, trivial⟩, ⟨at506, trivial, trivial⟩⟩⟩⟩⟩⟩, ⟨at14, ⟨at22, ⟨at38, ⟨at70, ⟨at134, ⟨at262, ⟨at518, trivial, trivial⟩, trivial⟩, ⟨at390, trivial, trivial⟩⟩, ⟨at198, ⟨at326, ⟨at582, trivial, trivial⟩, trivial⟩, ⟨at454, trivial, trivial⟩⟩⟩, ⟨at102, ⟨at166, ⟨at294, ⟨at550, trivial, trivial⟩, trivial⟩, ⟨at422, trivial, trivial⟩⟩, ⟨at230, ⟨at358, ⟨at614, trivial, trivial⟩, trivial⟩, ⟨at486, trivial, trivial⟩⟩⟩⟩, ⟨at54, ⟨at86, ⟨at150, ⟨at278, ⟨at534, trivial, trivial⟩, trivial⟩, ⟨at406, trivial, trivial⟩⟩, ⟨at214, ⟨at342, ⟨at598, trivial, trivial⟩, trivial⟩, ⟨at470, trivial, trivial⟩⟩⟩, ⟨at118, ⟨at182, ⟨at310, ⟨at566, trivial, trivial⟩, trivial⟩, ⟨at438, trivial, trivial⟩⟩, ⟨at246, ⟨at374, ⟨at630, trivial, trivial⟩, trivial⟩, ⟨at502, trivial, trivial⟩⟩⟩⟩⟩, ⟨at30, ⟨at46, ⟨at78, ⟨at142, ⟨at270, ⟨at526, trivial, trivial⟩, trivial⟩, ⟨at398, trivial, trivial⟩⟩, ⟨at206, ⟨at334, ⟨at590, trivial, trivial⟩, trivial⟩, ⟨at462, trivial, trivial⟩⟩⟩, ⟨at110, ⟨at174, ⟨at302, ⟨at558, trivial, trivial⟩, trivial⟩, ⟨at430, trivial, trivial⟩⟩, ⟨at238, ⟨at366, ⟨at622, trivial, trivial⟩, trivial⟩, ⟨at494, trivial, trivial⟩⟩⟩⟩, ⟨at62, ⟨at94, ⟨at158, ⟨at286, ⟨at542, trivial, trivial⟩, trivial⟩, ⟨at414, trivial, trivial⟩⟩, ⟨at222, ⟨at350, ⟨at606, trivial, trivial⟩, trivial⟩, ⟨at478, trivial, trivial⟩⟩⟩, ⟨at126, ⟨at190, ⟨at318, ⟨at574, trivial, trivial⟩, trivial⟩, ⟨at446, trivial, trivial⟩⟩, ⟨at254, ⟨at382, trivial, trivial⟩, ⟨at510, trivial, trivial⟩⟩⟩⟩⟩⟩⟩⟩⟩
end Go.Clo
