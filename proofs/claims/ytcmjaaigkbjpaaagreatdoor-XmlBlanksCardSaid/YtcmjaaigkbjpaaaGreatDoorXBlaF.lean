/- Closed facts of the row xmlBlanksRow, one by one. -/
import Derived.Test.YtcmjaaigkbjpaaaGreatDoorRows
import Derived.KernelRfl
import Derived.JoinedOf
namespace Go.Proofs.YtcmjaaigkbjpaaaGreatDoor
open Go

theorem xBla_c0 : (Rows.xmlBlanksRow.wf (OpenSpec.ofChange Rows.xmlBlanksSpec) : Bool) = true := by kernel_rfl
theorem xBla_c1 : (laidOutB Tryz.prog : Bool) = true := by kernel_rfl
theorem xBla_c2 : (mapsRowed Tryz.prog : Bool) = true := by kernel_rfl
theorem xBla_c3 : (Tryz.f6.params.all (Tryz.prog.readableRec ·) : Bool) = true := by kernel_rfl
theorem xBla_c4 : (namedTie Tryz.prog Rows.xmlBlanksRow.named Rows.xmlBlanksSpec.vars : Bool) = true := by kernel_rfl
theorem xBla_c5 : ((Rows.xmlBlanksRow.stops == []) : Bool) = true := by kernel_rfl
theorem xBla_c6 : ((Tryz.prog.stops == []) : Bool) = true := by kernel_rfl
theorem xBla_c7 : ((Rows.xmlBlanksRow.knobs == []) : Bool) = true := by kernel_rfl
theorem xBla_c8 : ((Tryz.prog.stopKnobs == []) : Bool) = true := by kernel_rfl
theorem xBla_c9 : ((Rows.xmlBlanksRow.inPlace == Tryz.prog.inPlace 6) : Bool) = true := by kernel_rfl
theorem xBla_c10 : ((Rows.xmlBlanksRow.unfollowed == Tryz.prog.unfollowed 6) : Bool) = true := by kernel_rfl
theorem xBla_c11 : ((Rows.xmlBlanksRow.recurses == Tryz.prog.recurses 6) : Bool) = true := by kernel_rfl
theorem xBla_c12 : ((Rows.xmlBlanksRow.named == Tryz.prog.varsNamed 6) : Bool) = true := by kernel_rfl
theorem xBla_c13 : ((Rows.xmlBlanksRow.maps == (Tryz.f6.params.toList ++ Rows.xmlBlanksSpec.plain.varTypes Tryz.prog).any (Tryz.prog.mapsRec ·)) : Bool) = true := by kernel_rfl
theorem xBla_c14 : ((Rows.xmlBlanksRow.ifaces == (Tryz.f6.params.toList ++ Rows.xmlBlanksSpec.plain.varTypes Tryz.prog).any (Tryz.prog.ifacesRec ·)) : Bool) = true := by kernel_rfl
theorem xBla_c15 : ((Rows.xmlBlanksRow.mapsOut == Tryz.prog.mapsAmong Tryz.f6.resultTypes.toList) : Bool) = true := by kernel_rfl
theorem xBla_c16 : ((Rows.xmlBlanksRow.loops == (Tryz.f6.params.toList ++ Rows.xmlBlanksSpec.plain.varTypes Tryz.prog).any (Tryz.prog.loopsFrom ·)) : Bool) = true := by kernel_rfl
theorem xBla_c17 : ((Rows.xmlBlanksRow.wideKeys == (Tryz.f6.params.toList ++ Rows.xmlBlanksSpec.plain.varTypes Tryz.prog ++ Tryz.f6.resultTypes.toList).any (Tryz.prog.wideKeysFrom ·)) : Bool) = true := by kernel_rfl
theorem xBla_c18 : (Rows.xmlBlanksSpec.vars.all (Tryz.prog.varReadable ·) : Bool) = true := by kernel_rfl
theorem xBla_c19 : (Tryz.f6.resultTypes.all (fun t => Tryz.prog.readableRec t && decide (t < Tryz.prog.types.size)) : Bool) = true := by kernel_rfl
theorem xBla_c20 : ((Rows.xmlBlanksRow.ifacesOut == Tryz.f6.resultTypes.toList.any (Tryz.prog.ifacesRec ·)) : Bool) = true := by kernel_rfl
theorem xBla_c21 : ((Rows.xmlBlanksRow.loopsOut == Tryz.f6.resultTypes.toList.any (Tryz.prog.loopsFrom ·)) : Bool) = true := by kernel_rfl
theorem xBla_c22 : ((Rows.xmlBlanksRow.plainKeys == Tryz.prog.plainKeys) : Bool) = true := by kernel_rfl
theorem xBla_c23 : (Rows.xmlBlanksRow.shortTexts.isNone : Bool) = true := by kernel_rfl
theorem xBla_c24 : (Tryz.prog.stopsHeard : Bool) = true := by kernel_rfl
theorem xBla_c25 : (Tryz.prog.mayEnter : Bool) = true := by kernel_rfl
theorem xBla_c26 : ((Rows.xmlBlanksRow.lifted == Tryz.prog.liftsFinal) : Bool) = true := by kernel_rfl
theorem xBla_c27 : ((Tryz.prog.make == some Rows.xmlBlanksRow.make) : Bool) = true := by kernel_rfl
theorem xBla_c28 : ((Rows.xmlBlanksRow.kinds == (if Rows.xmlBlanksRow.domain.isEmpty then [] else Tryz.f6.params.toList.map fun t => match Tryz.prog.underlying t with | some (.int k) => some k | _ => none)) : Bool) = true := by kernel_rfl
theorem xBla_c29 : ((Rows.xmlBlanksRow.pinned == Rows.xmlBlanksRow.pinnedBy) : Bool) = true := by kernel_rfl
theorem xBla_c30 : ((Rows.xmlBlanksRow.veiled == (Tryz.f6.params.toList ++ Rows.xmlBlanksSpec.plain.varTypes Tryz.prog ++ Tryz.f6.resultTypes.toList).any (Tryz.prog.veiledRec ·)) : Bool) = true := by kernel_rfl
theorem xBla_c31 : (Rows.xmlBlanksRow.veiledFits Tryz.prog Tryz.f6.params.toList (Tryz.f6.params.toList ++ Rows.xmlBlanksSpec.plain.varTypes Tryz.prog ++ Tryz.f6.resultTypes.toList) : Bool) = true := by kernel_rfl
end Go.Proofs.YtcmjaaigkbjpaaaGreatDoor
