/- PROVED HERE: the law XmlEscapes of layer 23: for every text and either flag the program writes the text just as the document does. Conditions: those of the given card alone (package api's errors and the library's tables lie as the program's text lays them; the card ties that). -/
import Derived.Test.YtcmjaaigkbjpaaaGreatDoorXEscF
import Derived.Test.YtcmjaaigkbjpaaaGreatDoorXEscG
import Derived.Test.YtcmjaaigkbjpaaaGreatDoorMergeG
import Derived.Test.YtcmjaaigkbjpaaaGreatDoorTie
import Derived.SevenTiedAt
namespace Go.Proofs.YtcmjaaigkbjpaaaGreatDoor
open Go Lia

theorem xEsc_closed : joinedFacts Tryz.prog 5 Tryz.f5 Rows.xmlEscapesSpec Rows.xmlEscapesRow = true := by
  unfold joinedFacts
  rw [xEsc_c0, xEsc_c1, xEsc_c2, xEsc_c3, xEsc_c4, xEsc_c5, xEsc_c6, xEsc_c7, xEsc_c8, xEsc_c9, xEsc_c10, xEsc_c11, xEsc_c12, xEsc_c13, xEsc_c14, xEsc_c15, xEsc_c16, xEsc_c17, xEsc_c18, xEsc_c19, xEsc_c20, xEsc_c21, xEsc_c22, xEsc_c23, xEsc_c24, xEsc_c25, xEsc_c26, xEsc_c27, xEsc_c29, xEsc_c30, xEsc_c31]
  simp only [Bool.true_and, Bool.and_true]
  kernel_rfl
set_option maxRecDepth 100000 in
theorem xmlEscapes_row : Rows.XmlEscapesSaid :=
  OpenClaim.holds_of_wide 5 Tryz.f5 rfl rfl rfl rfl rfl rfl rfl ⟨rfl, rfl, rfl, rfl, rfl⟩ rfl rfl rfl rfl rfl xEsc_named Tryz.func5 xEsc_closed
    xEsc_inst xEsc_wrap (fun os started H enc _ => xmlEscapes_lifted os started H enc)
set_option maxRecDepth 100000 in
theorem xmlEscapes_holds : Rows.XmlEscapesCardSaid :=
  Claim7.holds_tied_plain_at .later [] [.data, .data, .data, .data, .sentinel, .sentinel, .sentinel, .sentinel, .sentinel, .sentinel, .sentinel, .sentinel, .sentinel, .sentinel, .sentinel, .sentinel, .sentinel, .sentinel, .pinned] true (true, "e70902f11105026d89aa24a0b239c2de93dfe450d9e89a8cf3bc9e87a85a781d") true
    xmlEscapes_row (fun _ h => by cases h) xEsc_wf (fun _ h => by cases h) xmlEscapes_row_tie rfl ⟨rfl, rfl⟩ xEsc_main rfl
    (fun f fn hf hfn => by
      obtain rfl : f = 5 := Option.some.inj (xEsc_named.symm.trans hf) |>.symm
      obtain rfl : fn = Tryz.f5 := (Option.some.inj (Tryz.func5.symm.trans hfn)).symm
      exact ⟨xEsc_looks, fun j t ht => by
        rw [Tryz.params5] at ht
        have hm : t ∈ [9, 4] := by simpa using Array.mem_of_getElem? ht
        exact (show Tryz.prog.wantsStandIn t = false by simpa using List.all_eq_true.1 xEsc_stand t hm)⟩)
    xEsc_goes
#print axioms xmlEscapes_holds
end Go.Proofs.YtcmjaaigkbjpaaaGreatDoor
