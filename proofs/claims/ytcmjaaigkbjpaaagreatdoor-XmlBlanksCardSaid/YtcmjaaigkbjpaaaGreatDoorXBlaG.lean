/- Closed facts of the row XmlBlanks, and of its card. -/
import Derived.Test.YtcmjaaigkbjpaaaGreatDoorCards
import Derived.KernelRfl
import Derived.JoinedOf
import Derived.LaidMore
import Derived.Lay
namespace Go.Proofs.YtcmjaaigkbjpaaaGreatDoor
open Go
theorem xBla_named : Tryz.prog.funcNamed "liaison/liaisonlaw23.XmlBlanks" = some 6 := by kernel_rfl
theorem xBla_inst : Tryz.f6.isInstance Tryz.prog Rows.xmlBlanksRow.origin Rows.xmlBlanksRow.targs := (of_decide_eq_true (by kernel_rfl))
theorem xBla_wrap : Tryz.f6.isWrapper Tryz.prog Rows.xmlBlanksRow.wrapper Rows.xmlBlanksRow.mainSum := by unfold Func.isWrapper; first | (rw [if_pos (by decide +kernel)]; kernel_rfl) | (rw [if_neg (by decide +kernel)]; exact ⟨rfl, rfl⟩)
theorem xBla_wf : Rows.xmlBlanksRow.wfByText (OpenSpec.ofChange Rows.xmlBlanksSpec) = true := by kernel_rfl
theorem xBla_main : Tryz.prog.mainIs = some (true, "e70902f11105026d89aa24a0b239c2de93dfe450d9e89a8cf3bc9e87a85a781d".toList) := by kernel_rfl
theorem xBla_looks : true = Tryz.prog.looks [] := by kernel_rfl
theorem xBla_stand : ([9, 9, 64].all fun u => !Tryz.prog.wantsStandIn u) = true := by kernel_rfl
theorem xBla_goes : false = Rows.xmlBlanksRow.goesBy Tryz.prog := by kernel_rfl
end Go.Proofs.YtcmjaaigkbjpaaaGreatDoor
