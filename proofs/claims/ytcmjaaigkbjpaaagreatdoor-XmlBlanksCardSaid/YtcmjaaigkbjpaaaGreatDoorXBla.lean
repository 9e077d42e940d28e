/- PROVED HERE: the law XmlBlanks of layer 23: blanks within marks, the marks of values and how an element without content ends do not matter: both texts are parsed, to the same tree. Conditions: those of the given card alone (package api's errors and the library's tables lie as the program's text lays them; the card ties that). -/
import Derived.Test.YtcmjaaigkbjpaaaGreatDoorXBlaF
import Derived.Test.YtcmjaaigkbjpaaaGreatDoorXBlaG
import Derived.Test.YtcmjaaigkbjpaaaGreatDoorMergeH
import Derived.Test.YtcmjaaigkbjpaaaGreatDoorTie
import Derived.SevenTiedAt
namespace Go.Proofs.YtcmjaaigkbjpaaaGreatDoor
open Go Lia

theorem xBla_closed : joinedFacts Tryz.prog 6 Tryz.f6 Rows.xmlBlanksSpec Rows.xmlBlanksRow = true := by
  unfold joinedFacts
  rw [xBla_c0, xBla_c1, xBla_c2, xBla_c3, xBla_c4, xBla_c5, xBla_c6, xBla_c7, xBla_c8, xBla_c9, xBla_c10, xBla_c11, xBla_c12, xBla_c13, xBla_c14, xBla_c15, xBla_c16, xBla_c17, xBla_c18, xBla_c19, xBla_c20, xBla_c21, xBla_c22, xBla_c23, xBla_c24, xBla_c25, xBla_c26, xBla_c27, xBla_c29, xBla_c30, xBla_c31]
  simp only [Bool.true_and, Bool.and_true]
  kernel_rfl
set_option maxRecDepth 100000 in
theorem xmlBlanks_row : Rows.XmlBlanksSaid :=
  OpenClaim.holds_of_wide 6 Tryz.f6 rfl rfl rfl rfl rfl rfl rfl ⟨rfl, rfl, rfl, rfl, rfl⟩ rfl rfl rfl rfl rfl xBla_named Tryz.func6 xBla_closed
    xBla_inst xBla_wrap (fun os started H enc _ => xmlBlanks_lifted os started H enc)
set_option maxRecDepth 100000 in
theorem xmlBlanks_holds : Rows.XmlBlanksCardSaid :=
  Claim7.holds_tied_plain_at .later [] [.data, .data, .data, .data, .sentinel, .sentinel, .sentinel, .sentinel, .sentinel, .sentinel, .sentinel, .sentinel, .sentinel, .sentinel, .sentinel, .sentinel, .sentinel, .sentinel, .pinned] true (true, "e70902f11105026d89aa24a0b239c2de93dfe450d9e89a8cf3bc9e87a85a781d") true
    xmlBlanks_row (fun _ h => by cases h) xBla_wf (fun _ h => by cases h) xmlBlanks_row_tie rfl ⟨rfl, rfl⟩ xBla_main rfl
    (fun f fn hf hfn => by
      obtain rfl : f = 6 := Option.some.inj (xBla_named.symm.trans hf) |>.symm
      obtain rfl : fn = Tryz.f6 := (Option.some.inj (Tryz.func6.symm.trans hfn)).symm
      exact ⟨xBla_looks, fun j t ht => by
        rw [Tryz.params6] at ht
        have hm : t ∈ [9, 9, 64] := by simpa using Array.mem_of_getElem? ht
        exact (show Tryz.prog.wantsStandIn t = false by simpa using List.all_eq_true.1 xBla_stand t hm)⟩)
    xBla_goes
#print axioms xmlBlanks_holds
end Go.Proofs.YtcmjaaigkbjpaaaGreatDoor
