/-
  DERIVED. GIVEN WITH THE SEED: THE CARDS: each row of YtahdekllphehkaaDoorRows.lean that lists a variable, with what it lists TIED to the program's text (the seventh form; the later family's looks); each row that meets fmt, with fmt's text TOLD by the authors' own Lean function (tested against real Go, not proved from fmt's source: count such statements apart). THE CARD IS WHAT COUNTS. Prove the row's statement (the work); the ties are given (YtahdekllphehkaaDoorTie.lean); close each card by the builder's one call (the guide's Derived/Test/ToyasCard.lean, 'card_holds'). Laid BY PROGRAM, IN A SANDBOX (cutbox-door.mjs). By AI agents, Wed Nov 11 2026. No macro, syntax, notation, axiom, sorry.
-/
import Derived.Test.YtahdekllphehkaaDoorRows
import GoSem.ClaimSeven
namespace Go.Proofs.YtahdekllphehkaaDoor
namespace Rows

/-- THE TIED CARD OF 'speculumlaw04.TreesRoot'. -/
def treesRootCard : Claim7 := { stood := { row := treesRootRow, standIns := [], harness := (true, "0beb821250e88f5a6c3e8976768e649b41c34bcd0bd547178d362117b6db275a"), looks := false }, kinds := [], alts := [], laidByText := true, laidKinds := [.data, .data], laidTests := true, laidLooks := .later }
def TreesRootCardSaid : Prop := Claim7.holds Tryd.pinned (.plain (OpenSpec.ofChange treesRootSpec)) treesRootCard

/-- THE TIED CARD OF 'speculumlaw04.TreesHalves'. -/
def treesHalvesCard : Claim7 := { stood := { row := treesHalvesRow, standIns := [], harness := (true, "0beb821250e88f5a6c3e8976768e649b41c34bcd0bd547178d362117b6db275a"), looks := false }, kinds := [], alts := [], laidByText := true, laidKinds := [.data, .data], laidTests := true, laidLooks := .later }
def TreesHalvesCardSaid : Prop := Claim7.holds Tryd.pinned (.plain (OpenSpec.ofChange treesHalvesSpec)) treesHalvesCard

/-- THE TIED CARD OF 'speculumlaw32.EvidenceBack'. -/
def evidenceBackCard : Claim7 := { stood := { row := evidenceBackRow, standIns := [], harness := (true, "0beb821250e88f5a6c3e8976768e649b41c34bcd0bd547178d362117b6db275a"), looks := false }, kinds := [], alts := [], laidByText := true, laidKinds := [.data, .data], laidTests := true, laidLooks := .later }
def EvidenceBackCardSaid : Prop := Claim7.holds Tryd.pinned (.plain (OpenSpec.ofChange evidenceBackSpec)) evidenceBackCard

/-- THE TIED CARD OF 'speculumlaw04.TreesHash'. -/
def treesHashCard : Claim7 := { stood := { row := treesHashRow, standIns := [], harness := (true, "0beb821250e88f5a6c3e8976768e649b41c34bcd0bd547178d362117b6db275a"), looks := false }, kinds := [], alts := [], laidByText := true, laidKinds := [.data, .data], laidTests := true, laidLooks := .later }
def TreesHashCardSaid : Prop := Claim7.holds Tryd.pinned (.plain (OpenSpec.ofChange treesHashSpec)) treesHashCard

/-- THE TIED CARD OF 'speculumlaw06.PathsPath'. -/
def pathsPathCard : Claim7 := { stood := { row := pathsPathRow, standIns := [], harness := (true, "0beb821250e88f5a6c3e8976768e649b41c34bcd0bd547178d362117b6db275a"), looks := false }, kinds := [], alts := [], laidByText := true, laidKinds := [.data, .data], laidTests := true, laidLooks := .later }
def PathsPathCardSaid : Prop := Claim7.holds Tryd.pinned (.plain (OpenSpec.ofChange pathsPathSpec)) pathsPathCard

/-- THE TIED CARD OF 'speculumlaw32.EvidenceFound'. -/
def evidenceFoundCard : Claim7 := { stood := { row := evidenceFoundRow, standIns := [], harness := (true, "0beb821250e88f5a6c3e8976768e649b41c34bcd0bd547178d362117b6db275a"), looks := false }, kinds := [], alts := [], laidByText := true, laidKinds := [.data, .data], laidTests := true, laidLooks := .later }
def EvidenceFoundCardSaid : Prop := Claim7.holds Tryd.pinned (.plain (OpenSpec.ofChange evidenceFoundSpec)) evidenceFoundCard

/-- THE TIED CARD OF 'speculumlaw06.PathsCheck'. -/
def pathsCheckCard : Claim7 := { stood := { row := pathsCheckRow, standIns := [], harness := (true, "0beb821250e88f5a6c3e8976768e649b41c34bcd0bd547178d362117b6db275a"), looks := false }, kinds := [], alts := [], laidByText := true, laidKinds := [.data, .data], laidTests := true, laidLooks := .later }
def PathsCheckCardSaid : Prop := Claim7.holds Tryd.pinned (.plain (OpenSpec.ofChange pathsCheckSpec)) pathsCheckCard

/-- THE TIED CARD OF 'speculumlaw06.PathsBack'. -/
def pathsBackCard : Claim7 := { stood := { row := pathsBackRow, standIns := [], harness := (true, "0beb821250e88f5a6c3e8976768e649b41c34bcd0bd547178d362117b6db275a"), looks := false }, kinds := [], alts := [], laidByText := true, laidKinds := [.data, .data], laidTests := true, laidLooks := .later }
def PathsBackCardSaid : Prop := Claim7.holds Tryd.pinned (.plain (OpenSpec.ofChange pathsBackSpec)) pathsBackCard

/-- THE TIED CARD OF 'speculumlaw08.LamportSign'. -/
def lamportSignCard : Claim7 := { stood := { row := lamportSignRow, standIns := [], harness := (true, "0beb821250e88f5a6c3e8976768e649b41c34bcd0bd547178d362117b6db275a"), looks := false }, kinds := [], alts := [], laidByText := true, laidKinds := [.data, .data], laidTests := true, laidLooks := .later }
def LamportSignCardSaid : Prop := Claim7.holds Tryd.pinned (.plain (OpenSpec.ofChange lamportSignSpec)) lamportSignCard

/-- THE TIED CARD OF 'speculumlaw08.LamportPublic'. -/
def lamportPublicCard : Claim7 := { stood := { row := lamportPublicRow, standIns := [], harness := (true, "0beb821250e88f5a6c3e8976768e649b41c34bcd0bd547178d362117b6db275a"), looks := false }, kinds := [], alts := [], laidByText := true, laidKinds := [.data, .data], laidTests := true, laidLooks := .later }
def LamportPublicCardSaid : Prop := Claim7.holds Tryd.pinned (.plain (OpenSpec.ofChange lamportPublicSpec)) lamportPublicCard

/-- THE TIED CARD OF 'speculumlaw08.LamportBytes'. -/
def lamportBytesCard : Claim7 := { stood := { row := lamportBytesRow, standIns := [], harness := (true, "0beb821250e88f5a6c3e8976768e649b41c34bcd0bd547178d362117b6db275a"), looks := false }, kinds := [], alts := [], laidByText := true, laidKinds := [.data, .data], laidTests := true, laidLooks := .later }
def LamportBytesCardSaid : Prop := Claim7.holds Tryd.pinned (.plain (OpenSpec.ofChange lamportBytesSpec)) lamportBytesCard

/-- THE TIED CARD OF 'speculumlaw10.HeadsGet'. -/
def headsGetCard : Claim7 := { stood := { row := headsGetRow, standIns := [], harness := (true, "0beb821250e88f5a6c3e8976768e649b41c34bcd0bd547178d362117b6db275a"), looks := false }, kinds := [], alts := [], laidByText := true, laidKinds := [.data, .data], laidTests := true, laidLooks := .later }
def HeadsGetCardSaid : Prop := Claim7.holds Tryd.pinned (.plain (OpenSpec.ofChange headsGetSpec)) headsGetCard

/-- THE TIED CARD OF 'speculumlaw10.HeadsBack'. -/
def headsBackCard : Claim7 := { stood := { row := headsBackRow, standIns := [], harness := (true, "0beb821250e88f5a6c3e8976768e649b41c34bcd0bd547178d362117b6db275a"), looks := false }, kinds := [], alts := [], laidByText := true, laidKinds := [.data, .data], laidTests := true, laidLooks := .later }
def HeadsBackCardSaid : Prop := Claim7.holds Tryd.pinned (.plain (OpenSpec.ofChange headsBackSpec)) headsBackCard

/-- THE TIED CARD OF 'speculumlaw09.KeytreeSign'. -/
def keytreeSignCard : Claim7 := { stood := { row := keytreeSignRow, standIns := [], harness := (true, "0beb821250e88f5a6c3e8976768e649b41c34bcd0bd547178d362117b6db275a"), looks := false }, kinds := [], alts := [], laidByText := true, laidKinds := [.data, .data], laidTests := true, laidLooks := .later }
def KeytreeSignCardSaid : Prop := Claim7.holds Tryd.pinned (.plain (OpenSpec.ofChange keytreeSignSpec)) keytreeSignCard

/-- THE TIED CARD OF 'speculumlaw09.KeytreeVerify'. -/
def keytreeVerifyCard : Claim7 := { stood := { row := keytreeVerifyRow, standIns := [], harness := (true, "0beb821250e88f5a6c3e8976768e649b41c34bcd0bd547178d362117b6db275a"), looks := false }, kinds := [], alts := [], laidByText := true, laidKinds := [.data, .data], laidTests := true, laidLooks := .later }
def KeytreeVerifyCardSaid : Prop := Claim7.holds Tryd.pinned (.plain (OpenSpec.ofChange keytreeVerifySpec)) keytreeVerifyCard

/-- THE TIED CARD OF 'speculumlaw09.KeytreeNone'. -/
def keytreeNoneCard : Claim7 := { stood := { row := keytreeNoneRow, standIns := [], harness := (true, "0beb821250e88f5a6c3e8976768e649b41c34bcd0bd547178d362117b6db275a"), looks := false }, kinds := [], alts := [], laidByText := true, laidKinds := [.data, .data], laidTests := true, laidLooks := .later }
def KeytreeNoneCardSaid : Prop := Claim7.holds Tryd.pinned (.plain (OpenSpec.ofChange keytreeNoneSpec)) keytreeNoneCard

/-- THE TIED CARD OF 'speculumlaw10.HeadsTell'. -/
def headsTellCard : Claim7 := { stood := { row := headsTellRow, standIns := [], harness := (true, "0beb821250e88f5a6c3e8976768e649b41c34bcd0bd547178d362117b6db275a"), looks := false }, kinds := [], alts := [], laidByText := true, laidKinds := [.data, .data], laidTests := true, laidLooks := .later }
def HeadsTellCardSaid : Prop := Claim7.holds Tryd.pinned (.plain (OpenSpec.ofChange headsTellSpec)) headsTellCard

/-- THE TIED CARD OF 'speculumlaw33.AuditNone'. -/
def auditNoneCard : Claim7 := { stood := { row := auditNoneRow, standIns := [], harness := (true, "0beb821250e88f5a6c3e8976768e649b41c34bcd0bd547178d362117b6db275a"), looks := false }, kinds := [], alts := [], laidByText := true, laidKinds := [.data, .data], laidTests := true, laidLooks := .later }
def AuditNoneCardSaid : Prop := Claim7.holds Tryd.pinned (.plain (OpenSpec.ofChange auditNoneSpec)) auditNoneCard

/-- THE TIED CARD OF 'speculumlaw32.EvidenceCheck'. -/
def evidenceCheckCard : Claim7 := { stood := { row := evidenceCheckRow, standIns := [], harness := (true, "0beb821250e88f5a6c3e8976768e649b41c34bcd0bd547178d362117b6db275a"), looks := false }, kinds := [], alts := [], laidByText := true, laidKinds := [.data, .data], laidTests := true, laidLooks := .later }
def EvidenceCheckCardSaid : Prop := Claim7.holds Tryd.pinned (.plain (OpenSpec.ofChange evidenceCheckSpec)) evidenceCheckCard

/-- THE TIED CARD OF 'speculumlaw32.EvidenceFind'. -/
def evidenceFindCard : Claim7 := { stood := { row := evidenceFindRow, standIns := [], harness := (true, "0beb821250e88f5a6c3e8976768e649b41c34bcd0bd547178d362117b6db275a"), looks := false }, kinds := [], alts := [], laidByText := true, laidKinds := [.data, .data], laidTests := true, laidLooks := .later }
def EvidenceFindCardSaid : Prop := Claim7.holds Tryd.pinned (.plain (OpenSpec.ofChange evidenceFindSpec)) evidenceFindCard

/-- THE SECOND FORM's CARD OF 'speculumlaw04.TreesRoot'. -/
def treesRootUptoCard : Claim7 := { stood := { row := treesRootUptoRow, standIns := [], harness := (true, "0beb821250e88f5a6c3e8976768e649b41c34bcd0bd547178d362117b6db275a"), looks := false }, kinds := [], alts := [], laidByText := true, laidKinds := [.data, .data], laidTests := true, laidLooks := .later }
def TreesRootUptoCardSaid : Prop := Claim7.holds Tryd.pinned (.plain (OpenSpec.upto treesRootSpec)) treesRootUptoCard

/-- THE SECOND FORM's CARD OF 'speculumlaw04.TreesHalves'. -/
def treesHalvesUptoCard : Claim7 := { stood := { row := treesHalvesUptoRow, standIns := [], harness := (true, "0beb821250e88f5a6c3e8976768e649b41c34bcd0bd547178d362117b6db275a"), looks := false }, kinds := [], alts := [], laidByText := true, laidKinds := [.data, .data], laidTests := true, laidLooks := .later }
def TreesHalvesUptoCardSaid : Prop := Claim7.holds Tryd.pinned (.plain (OpenSpec.upto treesHalvesSpec)) treesHalvesUptoCard

/-- THE SECOND FORM's CARD OF 'speculumlaw32.EvidenceBack'. -/
def evidenceBackUptoCard : Claim7 := { stood := { row := evidenceBackUptoRow, standIns := [], harness := (true, "0beb821250e88f5a6c3e8976768e649b41c34bcd0bd547178d362117b6db275a"), looks := false }, kinds := [], alts := [], laidByText := true, laidKinds := [.data, .data], laidTests := true, laidLooks := .later }
def EvidenceBackUptoCardSaid : Prop := Claim7.holds Tryd.pinned (.plain (OpenSpec.upto evidenceBackSpec)) evidenceBackUptoCard

/-- THE SECOND FORM's CARD OF 'speculumlaw04.TreesHash'. -/
def treesHashUptoCard : Claim7 := { stood := { row := treesHashUptoRow, standIns := [], harness := (true, "0beb821250e88f5a6c3e8976768e649b41c34bcd0bd547178d362117b6db275a"), looks := false }, kinds := [], alts := [], laidByText := true, laidKinds := [.data, .data], laidTests := true, laidLooks := .later }
def TreesHashUptoCardSaid : Prop := Claim7.holds Tryd.pinned (.plain (OpenSpec.upto treesHashSpec)) treesHashUptoCard

/-- THE SECOND FORM's CARD OF 'speculumlaw06.PathsPath'. -/
def pathsPathUptoCard : Claim7 := { stood := { row := pathsPathUptoRow, standIns := [], harness := (true, "0beb821250e88f5a6c3e8976768e649b41c34bcd0bd547178d362117b6db275a"), looks := false }, kinds := [], alts := [], laidByText := true, laidKinds := [.data, .data], laidTests := true, laidLooks := .later }
def PathsPathUptoCardSaid : Prop := Claim7.holds Tryd.pinned (.plain (OpenSpec.upto pathsPathSpec)) pathsPathUptoCard

/-- THE SECOND FORM's CARD OF 'speculumlaw32.EvidenceFound'. -/
def evidenceFoundUptoCard : Claim7 := { stood := { row := evidenceFoundUptoRow, standIns := [], harness := (true, "0beb821250e88f5a6c3e8976768e649b41c34bcd0bd547178d362117b6db275a"), looks := false }, kinds := [], alts := [], laidByText := true, laidKinds := [.data, .data], laidTests := true, laidLooks := .later }
def EvidenceFoundUptoCardSaid : Prop := Claim7.holds Tryd.pinned (.plain (OpenSpec.upto evidenceFoundSpec)) evidenceFoundUptoCard

/-- THE SECOND FORM's CARD OF 'speculumlaw06.PathsCheck'. -/
def pathsCheckUptoCard : Claim7 := { stood := { row := pathsCheckUptoRow, standIns := [], harness := (true, "0beb821250e88f5a6c3e8976768e649b41c34bcd0bd547178d362117b6db275a"), looks := false }, kinds := [], alts := [], laidByText := true, laidKinds := [.data, .data], laidTests := true, laidLooks := .later }
def PathsCheckUptoCardSaid : Prop := Claim7.holds Tryd.pinned (.plain (OpenSpec.upto pathsCheckSpec)) pathsCheckUptoCard

/-- THE SECOND FORM's CARD OF 'speculumlaw06.PathsBack'. -/
def pathsBackUptoCard : Claim7 := { stood := { row := pathsBackUptoRow, standIns := [], harness := (true, "0beb821250e88f5a6c3e8976768e649b41c34bcd0bd547178d362117b6db275a"), looks := false }, kinds := [], alts := [], laidByText := true, laidKinds := [.data, .data], laidTests := true, laidLooks := .later }
def PathsBackUptoCardSaid : Prop := Claim7.holds Tryd.pinned (.plain (OpenSpec.upto pathsBackSpec)) pathsBackUptoCard

/-- THE SECOND FORM's CARD OF 'speculumlaw08.LamportSign'. -/
def lamportSignUptoCard : Claim7 := { stood := { row := lamportSignUptoRow, standIns := [], harness := (true, "0beb821250e88f5a6c3e8976768e649b41c34bcd0bd547178d362117b6db275a"), looks := false }, kinds := [], alts := [], laidByText := true, laidKinds := [.data, .data], laidTests := true, laidLooks := .later }
def LamportSignUptoCardSaid : Prop := Claim7.holds Tryd.pinned (.plain (OpenSpec.upto lamportSignSpec)) lamportSignUptoCard

/-- THE SECOND FORM's CARD OF 'speculumlaw08.LamportPublic'. -/
def lamportPublicUptoCard : Claim7 := { stood := { row := lamportPublicUptoRow, standIns := [], harness := (true, "0beb821250e88f5a6c3e8976768e649b41c34bcd0bd547178d362117b6db275a"), looks := false }, kinds := [], alts := [], laidByText := true, laidKinds := [.data, .data], laidTests := true, laidLooks := .later }
def LamportPublicUptoCardSaid : Prop := Claim7.holds Tryd.pinned (.plain (OpenSpec.upto lamportPublicSpec)) lamportPublicUptoCard

/-- THE SECOND FORM's CARD OF 'speculumlaw08.LamportBytes'. -/
def lamportBytesUptoCard : Claim7 := { stood := { row := lamportBytesUptoRow, standIns := [], harness := (true, "0beb821250e88f5a6c3e8976768e649b41c34bcd0bd547178d362117b6db275a"), looks := false }, kinds := [], alts := [], laidByText := true, laidKinds := [.data, .data], laidTests := true, laidLooks := .later }
def LamportBytesUptoCardSaid : Prop := Claim7.holds Tryd.pinned (.plain (OpenSpec.upto lamportBytesSpec)) lamportBytesUptoCard

/-- THE SECOND FORM's CARD OF 'speculumlaw10.HeadsGet'. -/
def headsGetUptoCard : Claim7 := { stood := { row := headsGetUptoRow, standIns := [], harness := (true, "0beb821250e88f5a6c3e8976768e649b41c34bcd0bd547178d362117b6db275a"), looks := false }, kinds := [], alts := [], laidByText := true, laidKinds := [.data, .data], laidTests := true, laidLooks := .later }
def HeadsGetUptoCardSaid : Prop := Claim7.holds Tryd.pinned (.plain (OpenSpec.upto headsGetSpec)) headsGetUptoCard

/-- THE SECOND FORM's CARD OF 'speculumlaw10.HeadsBack'. -/
def headsBackUptoCard : Claim7 := { stood := { row := headsBackUptoRow, standIns := [], harness := (true, "0beb821250e88f5a6c3e8976768e649b41c34bcd0bd547178d362117b6db275a"), looks := false }, kinds := [], alts := [], laidByText := true, laidKinds := [.data, .data], laidTests := true, laidLooks := .later }
def HeadsBackUptoCardSaid : Prop := Claim7.holds Tryd.pinned (.plain (OpenSpec.upto headsBackSpec)) headsBackUptoCard

/-- THE SECOND FORM's CARD OF 'speculumlaw09.KeytreeSign'. -/
def keytreeSignUptoCard : Claim7 := { stood := { row := keytreeSignUptoRow, standIns := [], harness := (true, "0beb821250e88f5a6c3e8976768e649b41c34bcd0bd547178d362117b6db275a"), looks := false }, kinds := [], alts := [], laidByText := true, laidKinds := [.data, .data], laidTests := true, laidLooks := .later }
def KeytreeSignUptoCardSaid : Prop := Claim7.holds Tryd.pinned (.plain (OpenSpec.upto keytreeSignSpec)) keytreeSignUptoCard

/-- THE SECOND FORM's CARD OF 'speculumlaw09.KeytreeVerify'. -/
def keytreeVerifyUptoCard : Claim7 := { stood := { row := keytreeVerifyUptoRow, standIns := [], harness := (true, "0beb821250e88f5a6c3e8976768e649b41c34bcd0bd547178d362117b6db275a"), looks := false }, kinds := [], alts := [], laidByText := true, laidKinds := [.data, .data], laidTests := true, laidLooks := .later }
def KeytreeVerifyUptoCardSaid : Prop := Claim7.holds Tryd.pinned (.plain (OpenSpec.upto keytreeVerifySpec)) keytreeVerifyUptoCard

/-- THE SECOND FORM's CARD OF 'speculumlaw09.KeytreeNone'. -/
def keytreeNoneUptoCard : Claim7 := { stood := { row := keytreeNoneUptoRow, standIns := [], harness := (true, "0beb821250e88f5a6c3e8976768e649b41c34bcd0bd547178d362117b6db275a"), looks := false }, kinds := [], alts := [], laidByText := true, laidKinds := [.data, .data], laidTests := true, laidLooks := .later }
def KeytreeNoneUptoCardSaid : Prop := Claim7.holds Tryd.pinned (.plain (OpenSpec.upto keytreeNoneSpec)) keytreeNoneUptoCard

/-- THE SECOND FORM's CARD OF 'speculumlaw10.HeadsTell'. -/
def headsTellUptoCard : Claim7 := { stood := { row := headsTellUptoRow, standIns := [], harness := (true, "0beb821250e88f5a6c3e8976768e649b41c34bcd0bd547178d362117b6db275a"), looks := false }, kinds := [], alts := [], laidByText := true, laidKinds := [.data, .data], laidTests := true, laidLooks := .later }
def HeadsTellUptoCardSaid : Prop := Claim7.holds Tryd.pinned (.plain (OpenSpec.upto headsTellSpec)) headsTellUptoCard

/-- THE SECOND FORM's CARD OF 'speculumlaw33.AuditNone'. -/
def auditNoneUptoCard : Claim7 := { stood := { row := auditNoneUptoRow, standIns := [], harness := (true, "0beb821250e88f5a6c3e8976768e649b41c34bcd0bd547178d362117b6db275a"), looks := false }, kinds := [], alts := [], laidByText := true, laidKinds := [.data, .data], laidTests := true, laidLooks := .later }
def AuditNoneUptoCardSaid : Prop := Claim7.holds Tryd.pinned (.plain (OpenSpec.upto auditNoneSpec)) auditNoneUptoCard

/-- THE SECOND FORM's CARD OF 'speculumlaw32.EvidenceCheck'. -/
def evidenceCheckUptoCard : Claim7 := { stood := { row := evidenceCheckUptoRow, standIns := [], harness := (true, "0beb821250e88f5a6c3e8976768e649b41c34bcd0bd547178d362117b6db275a"), looks := false }, kinds := [], alts := [], laidByText := true, laidKinds := [.data, .data], laidTests := true, laidLooks := .later }
def EvidenceCheckUptoCardSaid : Prop := Claim7.holds Tryd.pinned (.plain (OpenSpec.upto evidenceCheckSpec)) evidenceCheckUptoCard

/-- THE SECOND FORM's CARD OF 'speculumlaw32.EvidenceFind'. -/
def evidenceFindUptoCard : Claim7 := { stood := { row := evidenceFindUptoRow, standIns := [], harness := (true, "0beb821250e88f5a6c3e8976768e649b41c34bcd0bd547178d362117b6db275a"), looks := false }, kinds := [], alts := [], laidByText := true, laidKinds := [.data, .data], laidTests := true, laidLooks := .later }
def EvidenceFindUptoCardSaid : Prop := Claim7.holds Tryd.pinned (.plain (OpenSpec.upto evidenceFindSpec)) evidenceFindUptoCard
end Rows
end Go.Proofs.YtahdekllphehkaaDoor
