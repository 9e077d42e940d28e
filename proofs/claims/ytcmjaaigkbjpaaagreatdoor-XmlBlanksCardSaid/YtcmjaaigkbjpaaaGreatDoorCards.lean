/-
  DERIVED. GIVEN WITH THE SEED: THE CARDS: each row of YtcmjaaigkbjpaaaGreatDoorRows.lean that lists a variable, with what it lists TIED to the program's text (the seventh form; the later family's looks); each row that meets fmt, with fmt's text TOLD by the authors' own Lean function (tested against real Go, not proved from fmt's source: count such statements apart). THE CARD IS WHAT COUNTS. Prove the row's statement (the work); the ties are given (YtcmjaaigkbjpaaaGreatDoorTie.lean); close each card by the builder's one call (the guide's Derived/Test/ToyasCard.lean, 'card_holds'). Laid BY PROGRAM, IN A SANDBOX (cutbox-door.mjs). By AI agents, Wed Nov 11 2026. No macro, syntax, notation, axiom, sorry.
-/
import Derived.Test.YtcmjaaigkbjpaaaGreatDoorRows
import GoSem.ClaimSeven
namespace Go.Proofs.YtcmjaaigkbjpaaaGreatDoor
namespace Rows

/-- THE TIED CARD OF 'liaisonlaw24.SpacesResolves'. -/
def spacesResolvesCard : Claim7 := { stood := { row := spacesResolvesRow, standIns := [], harness := (true, "e70902f11105026d89aa24a0b239c2de93dfe450d9e89a8cf3bc9e87a85a781d"), looks := true }, kinds := [], alts := [], laidByText := true, laidKinds := [.data, .data, .data, .data, .sentinel, .sentinel, .sentinel, .sentinel, .sentinel, .sentinel, .sentinel, .sentinel, .sentinel, .sentinel, .sentinel, .sentinel, .sentinel, .sentinel, .pinned], laidTests := true, laidLooks := .later }
def SpacesResolvesCardSaid : Prop := Claim7.holds Tryz.pinned (.plain (OpenSpec.ofChange spacesResolvesSpec)) spacesResolvesCard

/-- THE TIED CARD OF 'liaisonlaw24.SpacesWrites'. -/
def spacesWritesCard : Claim7 := { stood := { row := spacesWritesRow, standIns := [], harness := (true, "e70902f11105026d89aa24a0b239c2de93dfe450d9e89a8cf3bc9e87a85a781d"), looks := true }, kinds := [], alts := [], laidByText := true, laidKinds := [.data, .data, .data, .data, .sentinel, .sentinel, .sentinel, .sentinel, .sentinel, .sentinel, .sentinel, .sentinel, .sentinel, .sentinel, .sentinel, .sentinel, .sentinel, .sentinel, .pinned], laidTests := true, laidLooks := .later }
def SpacesWritesCardSaid : Prop := Claim7.holds Tryz.pinned (.plain (OpenSpec.ofChange spacesWritesSpec)) spacesWritesCard

/-- THE TIED CARD OF 'liaisonlaw23.XmlEscapes'. -/
def xmlEscapesCard : Claim7 := { stood := { row := xmlEscapesRow, standIns := [], harness := (true, "e70902f11105026d89aa24a0b239c2de93dfe450d9e89a8cf3bc9e87a85a781d"), looks := true }, kinds := [], alts := [], laidByText := true, laidKinds := [.data, .data, .data, .data, .sentinel, .sentinel, .sentinel, .sentinel, .sentinel, .sentinel, .sentinel, .sentinel, .sentinel, .sentinel, .sentinel, .sentinel, .sentinel, .sentinel, .pinned], laidTests := true, laidLooks := .later }
def XmlEscapesCardSaid : Prop := Claim7.holds Tryz.pinned (.plain (OpenSpec.ofChange xmlEscapesSpec)) xmlEscapesCard

/-- THE TIED CARD OF 'liaisonlaw23.XmlBlanks'. -/
def xmlBlanksCard : Claim7 := { stood := { row := xmlBlanksRow, standIns := [], harness := (true, "e70902f11105026d89aa24a0b239c2de93dfe450d9e89a8cf3bc9e87a85a781d"), looks := true }, kinds := [], alts := [], laidByText := true, laidKinds := [.data, .data, .data, .data, .sentinel, .sentinel, .sentinel, .sentinel, .sentinel, .sentinel, .sentinel, .sentinel, .sentinel, .sentinel, .sentinel, .sentinel, .sentinel, .sentinel, .pinned], laidTests := true, laidLooks := .later }
def XmlBlanksCardSaid : Prop := Claim7.holds Tryz.pinned (.plain (OpenSpec.ofChange xmlBlanksSpec)) xmlBlanksCard

/-- THE TIED CARD OF 'liaisonlaw26.BindingUnlike'. -/
def bindingUnlikeCard : Claim7 := { stood := { row := bindingUnlikeRow, standIns := [], harness := (true, "e70902f11105026d89aa24a0b239c2de93dfe450d9e89a8cf3bc9e87a85a781d"), looks := true }, kinds := [], alts := [], laidByText := true, laidKinds := [.data, .data, .data, .data, .sentinel, .sentinel, .sentinel, .sentinel, .sentinel, .sentinel, .sentinel, .sentinel, .sentinel, .sentinel, .sentinel, .sentinel, .sentinel, .sentinel, .widerDeep, .widerDeep, .widerDeep, .widerDeep, .pinned], laidTests := true, laidLooks := .later }
def BindingUnlikeCardSaid : Prop := Claim7.holds Tryz.pinned (.plain (OpenSpec.ofChange bindingUnlikeSpec)) bindingUnlikeCard

/-- THE TIED CARD OF 'liaisonlaw23.XmlDeep'. -/
def xmlDeepCard : Claim7 := { stood := { row := xmlDeepRow, standIns := [], harness := (true, "e70902f11105026d89aa24a0b239c2de93dfe450d9e89a8cf3bc9e87a85a781d"), looks := true }, kinds := [], alts := [], laidByText := true, laidKinds := [.data, .data, .data, .data, .sentinel, .sentinel, .sentinel, .sentinel, .sentinel, .sentinel, .sentinel, .sentinel, .sentinel, .sentinel, .sentinel, .sentinel, .sentinel, .sentinel, .pinned], laidTests := true, laidLooks := .later }
def XmlDeepCardSaid : Prop := Claim7.holds Tryz.pinned (.plain (OpenSpec.ofChange xmlDeepSpec)) xmlDeepCard

/-- THE TIED CARD OF 'liaisonlaw23.XmlAgain'. -/
def xmlAgainCard : Claim7 := { stood := { row := xmlAgainRow, standIns := [], harness := (true, "e70902f11105026d89aa24a0b239c2de93dfe450d9e89a8cf3bc9e87a85a781d"), looks := true }, kinds := [], alts := [], laidByText := true, laidKinds := [.data, .data, .data, .data, .sentinel, .sentinel, .sentinel, .sentinel, .sentinel, .sentinel, .sentinel, .sentinel, .sentinel, .sentinel, .sentinel, .sentinel, .sentinel, .sentinel, .pinned], laidTests := true, laidLooks := .later }
def XmlAgainCardSaid : Prop := Claim7.holds Tryz.pinned (.plain (OpenSpec.ofChange xmlAgainSpec)) xmlAgainCard

/-- THE TIED CARD OF 'liaisonlaw23.XmlTexts'. -/
def xmlTextsCard : Claim7 := { stood := { row := xmlTextsRow, standIns := [], harness := (true, "e70902f11105026d89aa24a0b239c2de93dfe450d9e89a8cf3bc9e87a85a781d"), looks := true }, kinds := [], alts := [], laidByText := true, laidKinds := [.data, .data, .data, .data, .sentinel, .sentinel, .sentinel, .sentinel, .sentinel, .sentinel, .sentinel, .sentinel, .sentinel, .sentinel, .sentinel, .sentinel, .sentinel, .sentinel, .pinned], laidTests := true, laidLooks := .later }
def XmlTextsCardSaid : Prop := Claim7.holds Tryz.pinned (.plain (OpenSpec.ofChange xmlTextsSpec)) xmlTextsCard

/-- THE TIED CARD OF 'liaisonlaw25.SoapReplies'. -/
def soapRepliesCard : Claim7 := { stood := { row := soapRepliesRow, standIns := [], harness := (true, "e70902f11105026d89aa24a0b239c2de93dfe450d9e89a8cf3bc9e87a85a781d"), looks := true }, kinds := [], alts := [], laidByText := true, laidKinds := [.data, .data, .data, .data, .sentinel, .sentinel, .sentinel, .sentinel, .sentinel, .sentinel, .sentinel, .sentinel, .sentinel, .sentinel, .sentinel, .sentinel, .sentinel, .sentinel, .pinned], laidTests := true, laidLooks := .later }
def SoapRepliesCardSaid : Prop := Claim7.holds Tryz.pinned (.plain (OpenSpec.ofChange soapRepliesSpec)) soapRepliesCard

/-- THE TIED CARD OF 'liaisonlaw25.SoapBacks'. -/
def soapBacksCard : Claim7 := { stood := { row := soapBacksRow, standIns := [], harness := (true, "e70902f11105026d89aa24a0b239c2de93dfe450d9e89a8cf3bc9e87a85a781d"), looks := true }, kinds := [], alts := [], laidByText := true, laidKinds := [.data, .data, .data, .data, .sentinel, .sentinel, .sentinel, .sentinel, .sentinel, .sentinel, .sentinel, .sentinel, .sentinel, .sentinel, .sentinel, .sentinel, .sentinel, .sentinel, .pinned], laidTests := true, laidLooks := .later }
def SoapBacksCardSaid : Prop := Claim7.holds Tryz.pinned (.plain (OpenSpec.ofChange soapBacksSpec)) soapBacksCard

/-- THE TIED CARD OF 'liaisonlaw26.BindingWraps'. -/
def bindingWrapsCard : Claim7 := { stood := { row := bindingWrapsRow, standIns := [], harness := (true, "e70902f11105026d89aa24a0b239c2de93dfe450d9e89a8cf3bc9e87a85a781d"), looks := true }, kinds := [], alts := [], laidByText := true, laidKinds := [.data, .data, .data, .data, .sentinel, .sentinel, .sentinel, .sentinel, .sentinel, .sentinel, .sentinel, .sentinel, .sentinel, .sentinel, .sentinel, .sentinel, .sentinel, .sentinel, .widerDeep, .widerDeep, .widerDeep, .widerDeep, .pinned], laidTests := true, laidLooks := .later }
def BindingWrapsCardSaid : Prop := Claim7.holds Tryz.pinned (.plain (OpenSpec.ofChange bindingWrapsSpec)) bindingWrapsCard

/-- THE SECOND FORM's CARD OF 'liaisonlaw24.SpacesResolves'. -/
def spacesResolvesUptoCard : Claim7 := { stood := { row := spacesResolvesUptoRow, standIns := [], harness := (true, "e70902f11105026d89aa24a0b239c2de93dfe450d9e89a8cf3bc9e87a85a781d"), looks := true }, kinds := [], alts := [], laidByText := true, laidKinds := [.data, .data, .data, .data, .sentinel, .sentinel, .sentinel, .sentinel, .sentinel, .sentinel, .sentinel, .sentinel, .sentinel, .sentinel, .sentinel, .sentinel, .sentinel, .sentinel, .pinned], laidTests := true, laidLooks := .later }
def SpacesResolvesUptoCardSaid : Prop := Claim7.holds Tryz.pinned (.plain (OpenSpec.upto spacesResolvesSpec)) spacesResolvesUptoCard

/-- THE SECOND FORM's CARD OF 'liaisonlaw24.SpacesWrites'. -/
def spacesWritesUptoCard : Claim7 := { stood := { row := spacesWritesUptoRow, standIns := [], harness := (true, "e70902f11105026d89aa24a0b239c2de93dfe450d9e89a8cf3bc9e87a85a781d"), looks := true }, kinds := [], alts := [], laidByText := true, laidKinds := [.data, .data, .data, .data, .sentinel, .sentinel, .sentinel, .sentinel, .sentinel, .sentinel, .sentinel, .sentinel, .sentinel, .sentinel, .sentinel, .sentinel, .sentinel, .sentinel, .pinned], laidTests := true, laidLooks := .later }
def SpacesWritesUptoCardSaid : Prop := Claim7.holds Tryz.pinned (.plain (OpenSpec.upto spacesWritesSpec)) spacesWritesUptoCard

/-- THE SECOND FORM's CARD OF 'liaisonlaw23.XmlEscapes'. -/
def xmlEscapesUptoCard : Claim7 := { stood := { row := xmlEscapesUptoRow, standIns := [], harness := (true, "e70902f11105026d89aa24a0b239c2de93dfe450d9e89a8cf3bc9e87a85a781d"), looks := true }, kinds := [], alts := [], laidByText := true, laidKinds := [.data, .data, .data, .data, .sentinel, .sentinel, .sentinel, .sentinel, .sentinel, .sentinel, .sentinel, .sentinel, .sentinel, .sentinel, .sentinel, .sentinel, .sentinel, .sentinel, .pinned], laidTests := true, laidLooks := .later }
def XmlEscapesUptoCardSaid : Prop := Claim7.holds Tryz.pinned (.plain (OpenSpec.upto xmlEscapesSpec)) xmlEscapesUptoCard

/-- THE SECOND FORM's CARD OF 'liaisonlaw23.XmlBlanks'. -/
def xmlBlanksUptoCard : Claim7 := { stood := { row := xmlBlanksUptoRow, standIns := [], harness := (true, "e70902f11105026d89aa24a0b239c2de93dfe450d9e89a8cf3bc9e87a85a781d"), looks := true }, kinds := [], alts := [], laidByText := true, laidKinds := [.data, .data, .data, .data, .sentinel, .sentinel, .sentinel, .sentinel, .sentinel, .sentinel, .sentinel, .sentinel, .sentinel, .sentinel, .sentinel, .sentinel, .sentinel, .sentinel, .pinned], laidTests := true, laidLooks := .later }
def XmlBlanksUptoCardSaid : Prop := Claim7.holds Tryz.pinned (.plain (OpenSpec.upto xmlBlanksSpec)) xmlBlanksUptoCard

/-- THE SECOND FORM's CARD OF 'liaisonlaw26.BindingUnlike'. -/
def bindingUnlikeUptoCard : Claim7 := { stood := { row := bindingUnlikeUptoRow, standIns := [], harness := (true, "e70902f11105026d89aa24a0b239c2de93dfe450d9e89a8cf3bc9e87a85a781d"), looks := true }, kinds := [], alts := [], laidByText := true, laidKinds := [.data, .data, .data, .data, .sentinel, .sentinel, .sentinel, .sentinel, .sentinel, .sentinel, .sentinel, .sentinel, .sentinel, .sentinel, .sentinel, .sentinel, .sentinel, .sentinel, .widerDeep, .widerDeep, .widerDeep, .widerDeep, .pinned], laidTests := true, laidLooks := .later }
def BindingUnlikeUptoCardSaid : Prop := Claim7.holds Tryz.pinned (.plain (OpenSpec.upto bindingUnlikeSpec)) bindingUnlikeUptoCard

/-- THE SECOND FORM's CARD OF 'liaisonlaw23.XmlDeep'. -/
def xmlDeepUptoCard : Claim7 := { stood := { row := xmlDeepUptoRow, standIns := [], harness := (true, "e70902f11105026d89aa24a0b239c2de93dfe450d9e89a8cf3bc9e87a85a781d"), looks := true }, kinds := [], alts := [], laidByText := true, laidKinds := [.data, .data, .data, .data, .sentinel, .sentinel, .sentinel, .sentinel, .sentinel, .sentinel, .sentinel, .sentinel, .sentinel, .sentinel, .sentinel, .sentinel, .sentinel, .sentinel, .pinned], laidTests := true, laidLooks := .later }
def XmlDeepUptoCardSaid : Prop := Claim7.holds Tryz.pinned (.plain (OpenSpec.upto xmlDeepSpec)) xmlDeepUptoCard

/-- THE SECOND FORM's CARD OF 'liaisonlaw23.XmlAgain'. -/
def xmlAgainUptoCard : Claim7 := { stood := { row := xmlAgainUptoRow, standIns := [], harness := (true, "e70902f11105026d89aa24a0b239c2de93dfe450d9e89a8cf3bc9e87a85a781d"), looks := true }, kinds := [], alts := [], laidByText := true, laidKinds := [.data, .data, .data, .data, .sentinel, .sentinel, .sentinel, .sentinel, .sentinel, .sentinel, .sentinel, .sentinel, .sentinel, .sentinel, .sentinel, .sentinel, .sentinel, .sentinel, .pinned], laidTests := true, laidLooks := .later }
def XmlAgainUptoCardSaid : Prop := Claim7.holds Tryz.pinned (.plain (OpenSpec.upto xmlAgainSpec)) xmlAgainUptoCard

/-- THE SECOND FORM's CARD OF 'liaisonlaw23.XmlTexts'. -/
def xmlTextsUptoCard : Claim7 := { stood := { row := xmlTextsUptoRow, standIns := [], harness := (true, "e70902f11105026d89aa24a0b239c2de93dfe450d9e89a8cf3bc9e87a85a781d"), looks := true }, kinds := [], alts := [], laidByText := true, laidKinds := [.data, .data, .data, .data, .sentinel, .sentinel, .sentinel, .sentinel, .sentinel, .sentinel, .sentinel, .sentinel, .sentinel, .sentinel, .sentinel, .sentinel, .sentinel, .sentinel, .pinned], laidTests := true, laidLooks := .later }
def XmlTextsUptoCardSaid : Prop := Claim7.holds Tryz.pinned (.plain (OpenSpec.upto xmlTextsSpec)) xmlTextsUptoCard

/-- THE SECOND FORM's CARD OF 'liaisonlaw25.SoapReplies'. -/
def soapRepliesUptoCard : Claim7 := { stood := { row := soapRepliesUptoRow, standIns := [], harness := (true, "e70902f11105026d89aa24a0b239c2de93dfe450d9e89a8cf3bc9e87a85a781d"), looks := true }, kinds := [], alts := [], laidByText := true, laidKinds := [.data, .data, .data, .data, .sentinel, .sentinel, .sentinel, .sentinel, .sentinel, .sentinel, .sentinel, .sentinel, .sentinel, .sentinel, .sentinel, .sentinel, .sentinel, .sentinel, .pinned], laidTests := true, laidLooks := .later }
def SoapRepliesUptoCardSaid : Prop := Claim7.holds Tryz.pinned (.plain (OpenSpec.upto soapRepliesSpec)) soapRepliesUptoCard

/-- THE SECOND FORM's CARD OF 'liaisonlaw25.SoapBacks'. -/
def soapBacksUptoCard : Claim7 := { stood := { row := soapBacksUptoRow, standIns := [], harness := (true, "e70902f11105026d89aa24a0b239c2de93dfe450d9e89a8cf3bc9e87a85a781d"), looks := true }, kinds := [], alts := [], laidByText := true, laidKinds := [.data, .data, .data, .data, .sentinel, .sentinel, .sentinel, .sentinel, .sentinel, .sentinel, .sentinel, .sentinel, .sentinel, .sentinel, .sentinel, .sentinel, .sentinel, .sentinel, .pinned], laidTests := true, laidLooks := .later }
def SoapBacksUptoCardSaid : Prop := Claim7.holds Tryz.pinned (.plain (OpenSpec.upto soapBacksSpec)) soapBacksUptoCard

/-- THE SECOND FORM's CARD OF 'liaisonlaw26.BindingWraps'. -/
def bindingWrapsUptoCard : Claim7 := { stood := { row := bindingWrapsUptoRow, standIns := [], harness := (true, "e70902f11105026d89aa24a0b239c2de93dfe450d9e89a8cf3bc9e87a85a781d"), looks := true }, kinds := [], alts := [], laidByText := true, laidKinds := [.data, .data, .data, .data, .sentinel, .sentinel, .sentinel, .sentinel, .sentinel, .sentinel, .sentinel, .sentinel, .sentinel, .sentinel, .sentinel, .sentinel, .sentinel, .sentinel, .widerDeep, .widerDeep, .widerDeep, .widerDeep, .pinned], laidTests := true, laidLooks := .later }
def BindingWrapsUptoCardSaid : Prop := Claim7.holds Tryz.pinned (.plain (OpenSpec.upto bindingWrapsSpec)) bindingWrapsUptoCard
end Rows
end Go.Proofs.YtcmjaaigkbjpaaaGreatDoor
