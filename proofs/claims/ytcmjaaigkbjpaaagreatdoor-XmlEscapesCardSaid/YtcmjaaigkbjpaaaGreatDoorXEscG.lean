/- Closed facts of the row XmlEscapes, and of its card. -/
import Derived.Test.YtcmjaaigkbjpaaaGreatDoorCards
import Derived.KernelRfl
import Derived.JoinedOf
import Derived.LaidMore
import Derived.Lay
namespace Go.Proofs.YtcmjaaigkbjpaaaGreatDoor
open Go
theorem xEsc_named : Tryz.prog.funcNamed "liaison/liaisonlaw23.XmlEscapes" = some 5 := by kernel_rfl
theorem xEsc_inst : Tryz.f5.isInstance Tryz.prog Rows.xmlEscapesRow.origin Rows.xmlEscapesRow.targs := (of_decide_eq_true (by kernel_rfl))
theorem xEsc_wrap : Tryz.f5.isWrapper Tryz.prog Rows.xmlEscapesRow.wrapper Rows.xmlEscapesRow.mainSum := by unfold Func.isWrapper; first | (rw [if_pos (by decide +kernel)]; kernel_rfl) | (rw [if_neg (by decide +kernel)]; exact ⟨rfl, rfl⟩)
theorem xEsc_wf : Rows.xmlEscapesRow.wfByText (OpenSpec.ofChange Rows.xmlEscapesSpec) = true := by kernel_rfl
theorem xEsc_main : Tryz.prog.mainIs = some (true, "e70902f11105026d89aa24a0b239c2de93dfe450d9e89a8cf3bc9e87a85a781d".toList) := by kernel_rfl
theorem xEsc_looks : true = Tryz.prog.looks [] := by kernel_rfl
theorem xEsc_stand : ([9, 4].all fun u => !Tryz.prog.wantsStandIn u) = true := by kernel_rfl
theorem xEsc_goes : false = Rows.xmlEscapesRow.goesBy Tryz.prog := by kernel_rfl
end Go.Proofs.YtcmjaaigkbjpaaaGreatDoor
