/- Closed facts of the row xmlEscapesRow, one by one. -/
import Derived.Test.YtcmjaaigkbjpaaaGreatDoorRows
import Derived.KernelRfl
import Derived.JoinedOf
namespace Go.Proofs.YtcmjaaigkbjpaaaGreatDoor
open Go

theorem xEsc_c0 : (Rows.xmlEscapesRow.wf (OpenSpec.ofChange Rows.xmlEscapesSpec) : Bool) = true := by kernel_rfl
theorem xEsc_c1 : (laidOutB Tryz.prog : Bool) = true := by kernel_rfl
theorem xEsc_c2 : (mapsRowed Tryz.prog : Bool) = true := by kernel_rfl
theorem xEsc_c3 : (Tryz.f5.params.all (Tryz.prog.readableRec ·) : Bool) = true := by kernel_rfl
theorem xEsc_c4 : (namedTie Tryz.prog Rows.xmlEscapesRow.named Rows.xmlEscapesSpec.vars : Bool) = true := by kernel_rfl
theorem xEsc_c5 : ((Rows.xmlEscapesRow.stops == []) : Bool) = true := by kernel_rfl
theorem xEsc_c6 : ((Tryz.prog.stops == []) : Bool) = true := by kernel_rfl
theorem xEsc_c7 : ((Rows.xmlEscapesRow.knobs == []) : Bool) = true := by kernel_rfl
theorem xEsc_c8 : ((Tryz.prog.stopKnobs == []) : Bool) = true := by kernel_rfl
theorem xEsc_c9 : ((Rows.xmlEscapesRow.inPlace == Tryz.prog.inPlace 5) : Bool) = true := by kernel_rfl
theorem xEsc_c10 : ((Rows.xmlEscapesRow.unfollowed == Tryz.prog.unfollowed 5) : Bool) = true := by kernel_rfl
theorem xEsc_c11 : ((Rows.xmlEscapesRow.recurses == Tryz.prog.recurses 5) : Bool) = true := by kernel_rfl
theorem xEsc_c12 : ((Rows.xmlEscapesRow.named == Tryz.prog.varsNamed 5) : Bool) = true := by kernel_rfl
theorem xEsc_c13 : ((Rows.xmlEscapesRow.maps == (Tryz.f5.params.toList ++ Rows.xmlEscapesSpec.plain.varTypes Tryz.prog).any (Tryz.prog.mapsRec ·)) : Bool) = true := by kernel_rfl
theorem xEsc_c14 : ((Rows.xmlEscapesRow.ifaces == (Tryz.f5.params.toList ++ Rows.xmlEscapesSpec.plain.varTypes Tryz.prog).any (Tryz.prog.ifacesRec ·)) : Bool) = true := by kernel_rfl
theorem xEsc_c15 : ((Rows.xmlEscapesRow.mapsOut == Tryz.prog.mapsAmong Tryz.f5.resultTypes.toList) : Bool) = true := by kernel_rfl
theorem xEsc_c16 : ((Rows.xmlEscapesRow.loops == (Tryz.f5.params.toList ++ Rows.xmlEscapesSpec.plain.varTypes Tryz.prog).any (Tryz.prog.loopsFrom ·)) : Bool) = true := by kernel_rfl
theorem xEsc_c17 : ((Rows.xmlEscapesRow.wideKeys == (Tryz.f5.params.toList ++ Rows.xmlEscapesSpec.plain.varTypes Tryz.prog ++ Tryz.f5.resultTypes.toList).any (Tryz.prog.wideKeysFrom ·)) : Bool) = true := by kernel_rfl
theorem xEsc_c18 : (Rows.xmlEscapesSpec.vars.all (Tryz.prog.varReadable ·) : Bool) = true := by kernel_rfl
theorem xEsc_c19 : (Tryz.f5.resultTypes.all (fun t => Tryz.prog.readableRec t && decide (t < Tryz.prog.types.size)) : Bool) = true := by kernel_rfl
theorem xEsc_c20 : ((Rows.xmlEscapesRow.ifacesOut == Tryz.f5.resultTypes.toList.any (Tryz.prog.ifacesRec ·)) : Bool) = true := by kernel_rfl
theorem xEsc_c21 : ((Rows.xmlEscapesRow.loopsOut == Tryz.f5.resultTypes.toList.any (Tryz.prog.loopsFrom ·)) : Bool) = true := by kernel_rfl
theorem xEsc_c22 : ((Rows.xmlEscapesRow.plainKeys == Tryz.prog.plainKeys) : Bool) = true := by kernel_rfl
theorem xEsc_c23 : (Rows.xmlEscapesRow.shortTexts.isNone : Bool) = true := by kernel_rfl
theorem xEsc_c24 : (Tryz.prog.stopsHeard : Bool) = true := by kernel_rfl
theorem xEsc_c25 : (Tryz.prog.mayEnter : Bool) = true := by kernel_rfl
theorem xEsc_c26 : ((Rows.xmlEscapesRow.lifted == Tryz.prog.liftsFinal) : Bool) = true := by kernel_rfl
theorem xEsc_c27 : ((Tryz.prog.make == some Rows.xmlEscapesRow.make) : Bool) = true := by kernel_rfl
theorem xEsc_c28 : ((Rows.xmlEscapesRow.kinds == (if Rows.xmlEscapesRow.domain.isEmpty then [] else Tryz.f5.params.toList.map fun t => match Tryz.prog.underlying t with | some (.int k) => some k | _ => none)) : Bool) = true := by kernel_rfl
theorem xEsc_c29 : ((Rows.xmlEscapesRow.pinned == Rows.xmlEscapesRow.pinnedBy) : Bool) = true := by kernel_rfl
theorem xEsc_c30 : ((Rows.xmlEscapesRow.veiled == (Tryz.f5.params.toList ++ Rows.xmlEscapesSpec.plain.varTypes Tryz.prog ++ Tryz.f5.resultTypes.toList).any (Tryz.prog.veiledRec ·)) : Bool) = true := by kernel_rfl
theorem xEsc_c31 : (Rows.xmlEscapesRow.veiledFits Tryz.prog Tryz.f5.params.toList (Tryz.f5.params.toList ++ Rows.xmlEscapesSpec.plain.varTypes Tryz.prog ++ Tryz.f5.resultTypes.toList) : Bool) = true := by kernel_rfl
end Go.Proofs.YtcmjaaigkbjpaaaGreatDoor
