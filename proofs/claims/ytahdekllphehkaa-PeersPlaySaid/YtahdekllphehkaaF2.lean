/- Facts on the seat's program that all its laws lean on; no statement of the seat is proved here. -/
import Derived.Test.YtahdekllphehkaaF1
set_option linter.unusedVariables false
namespace Go.Proofs.Ytahdekllphehkaa
open Go.ChangeShapes Go.WideShapes Go.ChangeAt Go.RowKit
set_option maxRecDepth 100000
def ioL : List Char := ['h', 'a', 'r', 'n', 'e', 's', 's', ' ', '6', 'd', 'e', '3', '5', '9', '8', '7', '7', '5', '2', 'c', '9', '3', 'd', '8', 'c', '9', '2', 'f', 'd', '0', '8', '5', '1', 'd', 'd', '0', '1', '3', '7', '2', 'd', '2', '9', 'c', '8', 'f', '0', '2', '8', 'e', '0', '5', 'e', 'c', '6', 'c', '4', '8', 'a', '0', '5', '1', 'e', '9', 'e', '8', 'c', '1', 'a', '0', 'e', '2', ' ', 'c', 'u', 't', ' ', 'a', 't', ' ', 's', 'p', 'e', 'c', 'u', 'l', 'u', 'm', '/', 's', 'p', 'e', 'c', 'u', 'l', 'u', 'm', 'l', 'a', 'w', '1', '9', '.', 'B', 'a', 'c', 'k', 'o', 'f', 'f', 'T', 'e', 'l', 'l', ' ', 's', 'p', 'e', 'c', 'u', 'l', 'u', 'm', '/', 's', 'p', 'e', 'c', 'u', 'l', 'u', 'm', 'l', 'a', 'w', '1', '9', '.', 'B', 'a', 'c', 'k', 'o', 'f', 'f', 'B', 'o', 'u', 'n', 'd', 's', ' ', 's', 'p', 'e', 'c', 'u', 'l', 'u', 'm', '/', 's', 'p', 'e', 'c', 'u', 'l', 'u', 'm', 'l', 'a', 'w', '2', '3', '.', 'P', 'e', 'e', 'r', 's', 'A', 'g', 'a', 'i', 'n', ' ', 's', 'p', 'e', 'c', 'u', 'l', 'u', 'm', '/', 's', 'p', 'e', 'c', 'u', 'l', 'u', 'm', 'l', 'a', 'w', '2', '3', '.', 'P', 'e', 'e', 'r', 's', 'P', 'l', 'a', 'y', ' ', 's', 'p', 'e', 'c', 'u', 'l', 'u', 'm', '/', 's', 'p', 'e', 'c', 'u', 'l', 'u', 'm', 'l', 'a', 'w', '2', '3', '.', 'P', 'e', 'e', 'r', 's', 'N', 'o', 'n', 'e']
theorem io0 : Try.prog.initOrder = "harness 6de35987752c93d8c92fd0851dd01372d29c8f028e05ec6c48a051e9e8c1a0e2 cut at speculum/speculumlaw19.BackoffTell speculum/speculumlaw19.BackoffBounds speculum/speculumlaw23.PeersAgain speculum/speculumlaw23.PeersPlay speculum/speculumlaw23.PeersNone" := by kernel_rfl
theorem io : Try.prog.initOrder.toList = ioL := by rw [io0, show ("harness 6de35987752c93d8c92fd0851dd01372d29c8f028e05ec6c48a051e9e8c1a0e2 cut at speculum/speculumlaw19.BackoffTell speculum/speculumlaw19.BackoffBounds speculum/speculumlaw23.PeersAgain speculum/speculumlaw23.PeersPlay speculum/speculumlaw23.PeersNone" : String) = String.ofList ioL from rfl, String.toList_ofList]
def wsL : List (List Char) := [['c', 'u', 't'], ['a', 't'], ['s', 'p', 'e', 'c', 'u', 'l', 'u', 'm', '/', 's', 'p', 'e', 'c', 'u', 'l', 'u', 'm', 'l', 'a', 'w', '1', '9', '.', 'B', 'a', 'c', 'k', 'o', 'f', 'f', 'T', 'e', 'l', 'l'], ['s', 'p', 'e', 'c', 'u', 'l', 'u', 'm', '/', 's', 'p', 'e', 'c', 'u', 'l', 'u', 'm', 'l', 'a', 'w', '1', '9', '.', 'B', 'a', 'c', 'k', 'o', 'f', 'f', 'B', 'o', 'u', 'n', 'd', 's'], ['s', 'p', 'e', 'c', 'u', 'l', 'u', 'm', '/', 's', 'p', 'e', 'c', 'u', 'l', 'u', 'm', 'l', 'a', 'w', '2', '3', '.', 'P', 'e', 'e', 'r', 's', 'A', 'g', 'a', 'i', 'n'], ['s', 'p', 'e', 'c', 'u', 'l', 'u', 'm', '/', 's', 'p', 'e', 'c', 'u', 'l', 'u', 'm', 'l', 'a', 'w', '2', '3', '.', 'P', 'e', 'e', 'r', 's', 'P', 'l', 'a', 'y'], ['s', 'p', 'e', 'c', 'u', 'l', 'u', 'm', '/', 's', 'p', 'e', 'c', 'u', 'l', 'u', 'm', 'l', 'a', 'w', '2', '3', '.', 'P', 'e', 'e', 'r', 's', 'N', 'o', 'n', 'e']]
theorem ws0 : wordsSigns ioL = [['h', 'a', 'r', 'n', 'e', 's', 's'], ['6', 'd', 'e', '3', '5', '9', '8', '7', '7', '5', '2', 'c', '9', '3', 'd', '8', 'c', '9', '2', 'f', 'd', '0', '8', '5', '1', 'd', 'd', '0', '1', '3', '7', '2', 'd', '2', '9', 'c', '8', 'f', '0', '2', '8', 'e', '0', '5', 'e', 'c', '6', 'c', '4', '8', 'a', '0', '5', '1', 'e', '9', 'e', '8', 'c', '1', 'a', '0', 'e', '2'], ['c', 'u', 't'], ['a', 't'], ['s', 'p', 'e', 'c', 'u', 'l', 'u', 'm', '/', 's', 'p', 'e', 'c', 'u', 'l', 'u', 'm', 'l', 'a', 'w', '1', '9', '.', 'B', 'a', 'c', 'k', 'o', 'f', 'f', 'T', 'e', 'l', 'l'], ['s', 'p', 'e', 'c', 'u', 'l', 'u', 'm', '/', 's', 'p', 'e', 'c', 'u', 'l', 'u', 'm', 'l', 'a', 'w', '1', '9', '.', 'B', 'a', 'c', 'k', 'o', 'f', 'f', 'B', 'o', 'u', 'n', 'd', 's'], ['s', 'p', 'e', 'c', 'u', 'l', 'u', 'm', '/', 's', 'p', 'e', 'c', 'u', 'l', 'u', 'm', 'l', 'a', 'w', '2', '3', '.', 'P', 'e', 'e', 'r', 's', 'A', 'g', 'a', 'i', 'n'], ['s', 'p', 'e', 'c', 'u', 'l', 'u', 'm', '/', 's', 'p', 'e', 'c', 'u', 'l', 'u', 'm', 'l', 'a', 'w', '2', '3', '.', 'P', 'e', 'e', 'r', 's', 'P', 'l', 'a', 'y'], ['s', 'p', 'e', 'c', 'u', 'l', 'u', 'm', '/', 's', 'p', 'e', 'c', 'u', 'l', 'u', 'm', 'l', 'a', 'w', '2', '3', '.', 'P', 'e', 'e', 'r', 's', 'N', 'o', 'n', 'e']] := by kernel_rfl
theorem ws : behindMainWord (wordsSigns ioL) = wsL := by rw [ws0]; kernel_rfl
theorem mayEnter_of (P : Program) (h : behindMainWord (wordsSigns P.initOrder.toList) = wsL) (h1 : P.laysLater = false) (h2 : P.bearsReflect = false) (h3 : P.doorFits [] = true) : P.mayEnter = true := by
  have e : stripLifts liftWords wsL = ([], wsL) := by kernel_rfl
  unfold Program.mayEnter
  rw [h]
  unfold wsL at e ⊢
  simp only [e, h1, h2, h3]
  exact of_decide_eq_true (by kernel_rfl)
theorem make_of (P : Program) (h : behindMainWord (wordsSigns P.initOrder.toList) = wsL) : P.make = some .cut := by
  unfold Program.make
  rw [h]
  kernel_rfl
theorem mainIs_of (P : Program) (h : wordsSigns P.initOrder.toList = [['h', 'a', 'r', 'n', 'e', 's', 's'], ['6', 'd', 'e', '3', '5', '9', '8', '7', '7', '5', '2', 'c', '9', '3', 'd', '8', 'c', '9', '2', 'f', 'd', '0', '8', '5', '1', 'd', 'd', '0', '1', '3', '7', '2', 'd', '2', '9', 'c', '8', 'f', '0', '2', '8', 'e', '0', '5', 'e', 'c', '6', 'c', '4', '8', 'a', '0', '5', '1', 'e', '9', 'e', '8', 'c', '1', 'a', '0', 'e', '2'], ['c', 'u', 't'], ['a', 't'], ['s', 'p', 'e', 'c', 'u', 'l', 'u', 'm', '/', 's', 'p', 'e', 'c', 'u', 'l', 'u', 'm', 'l', 'a', 'w', '1', '9', '.', 'B', 'a', 'c', 'k', 'o', 'f', 'f', 'T', 'e', 'l', 'l'], ['s', 'p', 'e', 'c', 'u', 'l', 'u', 'm', '/', 's', 'p', 'e', 'c', 'u', 'l', 'u', 'm', 'l', 'a', 'w', '1', '9', '.', 'B', 'a', 'c', 'k', 'o', 'f', 'f', 'B', 'o', 'u', 'n', 'd', 's'], ['s', 'p', 'e', 'c', 'u', 'l', 'u', 'm', '/', 's', 'p', 'e', 'c', 'u', 'l', 'u', 'm', 'l', 'a', 'w', '2', '3', '.', 'P', 'e', 'e', 'r', 's', 'A', 'g', 'a', 'i', 'n'], ['s', 'p', 'e', 'c', 'u', 'l', 'u', 'm', '/', 's', 'p', 'e', 'c', 'u', 'l', 'u', 'm', 'l', 'a', 'w', '2', '3', '.', 'P', 'e', 'e', 'r', 's', 'P', 'l', 'a', 'y'], ['s', 'p', 'e', 'c', 'u', 'l', 'u', 'm', '/', 's', 'p', 'e', 'c', 'u', 'l', 'u', 'm', 'l', 'a', 'w', '2', '3', '.', 'P', 'e', 'e', 'r', 's', 'N', 'o', 'n', 'e']]) : P.mainIs = some (true, "6de35987752c93d8c92fd0851dd01372d29c8f028e05ec6c48a051e9e8c1a0e2".toList) := by
  unfold Program.mainIs
  rw [h]
  kernel_rfl
theorem wsT : behindMainWord (wordsSigns Try.prog.initOrder.toList) = wsL := by rw [io]; exact ws
theorem j_lays : Try.prog.laysLater = false := by kernel_rfl
theorem j_refl : Try.prog.bearsReflect = false := by kernel_rfl
theorem j_door : Try.prog.doorFits [] = true := by kernel_rfl
theorem j_mayEnter : Try.prog.mayEnter = true := mayEnter_of _ wsT j_lays j_refl j_door
theorem j_make : Try.prog.make = some .cut := make_of _ wsT
theorem j_mainIs : Try.prog.mainIs = some (true, "6de35987752c93d8c92fd0851dd01372d29c8f028e05ec6c48a051e9e8c1a0e2".toList) := mainIs_of _ (by rw [io]; exact ws0)
theorem lifts_of (P : Program) (h : behindMainWord (wordsSigns P.initOrder.toList) = wsL) : P.liftsFinal = false := by
  unfold Program.liftsFinal Program.headLifts
  rw [h]
  kernel_rfl
theorem j_lifted : Try.prog.liftsFinal = false := lifts_of _ wsT
theorem j_keys : (Rows.backoffBoundsRow.plainKeys == Try.prog.plainKeys) = true := by kernel_rfl
theorem j_heard : Try.prog.stopsHeard = true := by kernel_rfl
theorem j_mapsRowed : mapsRowed Try.prog = true := by kernel_rfl
theorem j_stops : (Try.prog.stops == []) = true := by kernel_rfl
theorem j_knobs : (Try.prog.stopKnobs == []) = true := by kernel_rfl
theorem closed_of {f : FuncId} {fn : Func} {s : ChangeSpec} {c : OpenClaim} (h1 : c.wf (OpenSpec.ofChange s) = true) (h2 : fn.params.all (Try.prog.readableRec ·) = true) (h3 : namedTie Try.prog c.named s.vars = true) (h4 : (c.stops == []) = true) (h5 : (c.knobs == []) = true)
    (h6 : (c.inPlace == Try.prog.inPlace f) = true) (h7 : (c.unfollowed == Try.prog.unfollowed f) = true) (h8 : (c.recurses == Try.prog.recurses f) = true) (h9 : (c.named == Try.prog.varsNamed f) = true)
    (h10 : (c.maps == (fn.params.toList ++ s.plain.varTypes Try.prog).any (Try.prog.mapsRec ·)) = true) (h11 : (c.ifaces == (fn.params.toList ++ s.plain.varTypes Try.prog).any (Try.prog.ifacesRec ·)) = true) (h12 : (c.mapsOut == Try.prog.mapsAmong fn.resultTypes.toList) = true)
    (h13 : (c.loops == (fn.params.toList ++ s.plain.varTypes Try.prog).any (Try.prog.loopsFrom ·)) = true) (h14 : (c.wideKeys == (fn.params.toList ++ s.plain.varTypes Try.prog ++ fn.resultTypes.toList).any (Try.prog.wideKeysFrom ·)) = true)
    (h15 : s.vars.all (Try.prog.varReadable ·) = true) (h16 : fn.resultTypes.all (fun t => Try.prog.readableRec t && decide (t < Try.prog.types.size)) = true) (h17 : (c.ifacesOut == fn.resultTypes.toList.any (Try.prog.ifacesRec ·)) = true) (h18 : (c.loopsOut == fn.resultTypes.toList.any (Try.prog.loopsFrom ·)) = true)
    (h19 : c.plainKeys = Rows.backoffBoundsRow.plainKeys) (h20 : c.shortTexts.isNone = true) (h21 : c.lifted = false) (h22 : c.make = .cut) (h23 : (c.kinds == (if c.domain.isEmpty then [] else fn.params.toList.map fun t => match Try.prog.underlying t with | some (.int k) => some k | _ => none)) = true) (h24 : (c.pinned == c.pinnedBy) = true)
    (h25 : (c.veiled == (fn.params.toList ++ s.plain.varTypes Try.prog ++ fn.resultTypes.toList).any (Try.prog.veiledRec ·)) = true) (h26 : c.veiledFits Try.prog fn.params.toList (fn.params.toList ++ s.plain.varTypes Try.prog ++ fn.resultTypes.toList) = true) :
    joinedFacts Try.prog f fn s c = true := by
  have hk : (c.plainKeys == Try.prog.plainKeys) = true := by rw [h19]; exact j_keys
  have hl : (c.lifted == Try.prog.liftsFinal) = true := by rw [h21, j_lifted]; rfl
  have hm : (Try.prog.make == some c.make) = true := by rw [h22, j_make]; rfl
  unfold joinedFacts
  rw [Bool.and_eq_true, Bool.and_eq_true, Bool.and_eq_true, Bool.and_eq_true, Bool.and_eq_true, Bool.and_eq_true, Bool.and_eq_true, Bool.and_eq_true, Bool.and_eq_true, Bool.and_eq_true, Bool.and_eq_true, Bool.and_eq_true, Bool.and_eq_true, Bool.and_eq_true, Bool.and_eq_true, Bool.and_eq_true, Bool.and_eq_true, Bool.and_eq_true, Bool.and_eq_true, Bool.and_eq_true, Bool.and_eq_true, Bool.and_eq_true, Bool.and_eq_true, Bool.and_eq_true, Bool.and_eq_true, Bool.and_eq_true, Bool.and_eq_true, Bool.and_eq_true, Bool.and_eq_true, Bool.and_eq_true, Bool.and_eq_true]
  exact ⟨⟨⟨⟨⟨⟨⟨⟨⟨⟨⟨⟨⟨⟨⟨⟨⟨⟨⟨⟨⟨⟨⟨⟨⟨⟨⟨⟨⟨⟨⟨h1, laidOut⟩, j_mapsRowed⟩, h2⟩, h3⟩, h4⟩, j_stops⟩, h5⟩, j_knobs⟩, h6⟩, h7⟩, h8⟩, h9⟩, h10⟩, h11⟩, h12⟩, h13⟩, h14⟩, h15⟩, h16⟩, h17⟩, h18⟩, hk⟩, h20⟩, j_heard⟩, j_mayEnter⟩, hl⟩, hm⟩, h23⟩, h24⟩, h25⟩, h26⟩
end Go.Proofs.Ytahdekllphehkaa
