import Derived.Test.YtogabhigkmggiaaGreatDoorMm
import Derived.Test.YtogabhigkmggiaaGreatDoorCC
import Derived.Test.YtogabhigkmggiaaGreatDoorFl
import Derived.Test.YtogabhigkmggiaaGreatDoorStd2
import Derived.Test.YtogabhigkmggiaaGreatDoorMarksC
set_option linter.unusedVariables false
set_option linter.unusedSimpArgs false
set_option linter.unusedSectionVars false
namespace Go.Ev
open Go.Proofs
noncomputable def X0 : FuncId → Option Ext := withX 156 extCC (withX 534 extFields (withX 250 extStd (fun _ => none)))
noncomputable def X1 : FuncId → Option Ext := withX 112 (memo ms112) X0
noncomputable def X2 : FuncId → Option Ext := withX 41 (memo ms41) X1
noncomputable def X3 : FuncId → Option Ext := withX 48 extMarks X2
noncomputable def X4 : FuncId → Option Ext := withX 51 (memo ms51) X3
noncomputable def X5 : FuncId → Option Ext := withX 46 (memo ms46) X4
noncomputable def X6 : FuncId → Option Ext := withX 16 (memo ms16) X5
noncomputable def X7 : FuncId → Option Ext := withX 17 (memo ms17) X6
noncomputable def X8 : FuncId → Option Ext := withX 18 (memo ms18) X7
end Go.Ev
