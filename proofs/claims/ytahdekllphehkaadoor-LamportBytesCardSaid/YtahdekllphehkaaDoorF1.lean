/- The laid tables, a world that holds them; no statement of the seat is proved here. -/
import Derived.Test.YtahdekllphehkaaDoorF0
import Derived.Stop.LaidErr
set_option linter.unusedVariables false
set_option linter.unusedSimpArgs false
namespace Go.Proofs.YtahdekllphehkaaDoor
open Go.ChangeShapes Go.WideShapes Go.ChangeAt Go.RowKit Go.WL Go.Spec

theorem own : ownKnob Tryd.prog.godebug = none := by kernel_rfl
theorem laidOut : laidOutB Tryd.prog = true := by kernel_rfl
theorem gFirst : Tryd.prog.globalNamed "speculum/sha.first" = some 0 := by kernel_rfl
theorem gFirstT : (Tryd.prog.globals[0]?).map (·.type) = some 188 := by kernel_rfl
theorem gRounds : Tryd.prog.globalNamed "speculum/sha.rounds" = some 1 := by kernel_rfl
theorem gRoundsT : (Tryd.prog.globals[1]?).map (·.type) = some 190 := by kernel_rfl
theorem c188 : Tryd.prog.cellsOf 188 = 8 := by kernel_rfl
theorem c190 : Tryd.prog.cellsOf 190 = 64 := by kernel_rfl
theorem c187 : Tryd.prog.cellsOf 187 = 1 := by kernel_rfl
def laidL : List (String × DataW Unit) := [("speculum/sha.first", Rows.laid_speculum_sha_first), ("speculum/sha.rounds", Rows.laid_speculum_sha_rounds)]
theorem gl_of_laid {W : World} (h : laidMetH Tryd.prog laidL W) : GL W := by
  have h' : laidMet Tryd.prog (("speculum/sha.first", Lib.tabData .u32 (firstS.l.map fun x => (x.toNat : Int))) :: [("speculum/sha.rounds", Lib.tabData .u32 (roundKs.map fun x => (x.toNat : Int)))]) W := h
  have h2 : laidMet Tryd.prog (("speculum/sha.rounds", Lib.tabData .u32 (roundKs.map fun x => (x.toNat : Int))) :: []) W := by
    exact laidMet.tail h'
  have t1 := Lib.tabIs_of_head gFirst gFirstT Tryd.underlying188 Tryd.underlying187 c187 c188 h'
  have t2 := Lib.tabIs_of_head gRounds gRoundsT Tryd.underlying190 Tryd.underlying187 c187 c190 h2
  have conv : ∀ {l : List UInt32} {j : Nat} {u : Value}, (l.map U32)[j]? = some u → ∃ h : j < (l.map fun x => (x.toNat : Int)).length, u = .int .u32 ((l.map fun x => (x.toNat : Int)).getD j 0) := by
    intro l j u hu
    rw [List.getElem?_map] at hu
    rcases Nat.lt_or_ge j l.length with h | h
    · rw [List.getElem?_eq_getElem h] at hu
      refine ⟨by simpa using h, ?_⟩
      simp only [Option.map_some, Option.some.injEq] at hu
      rw [← hu, List.getD_eq_getElem?_getD, List.getElem?_map, List.getElem?_eq_getElem h]
      rfl
    · rw [List.getElem?_eq_none h] at hu; cases hu
  constructor
  · intro j u hu
    obtain ⟨hj, rfl⟩ := conv hu
    exact t1.cell gFirst j hj
  · intro j u hu
    obtain ⟨hj, rfl⟩ := conv hu
    exact t2.cell gRounds j hj

def setTab (cs : Array Value) : Obj → Obj
  | .cells _ t frozen => .cells cs t frozen
  | o => o
/-- A world whose tables hold what their text lays. -/
noncomputable def laidWorld (os : Os) : World :=
  { World.holding Tryd.prog os ⟨#[], #[], []⟩ with heap := ((World.holding Tryd.prog os ⟨#[], #[], []⟩).heap.modify 0 (setTab (firstS.l.map U32).toArray)).modify 1 (setTab (roundKs.map U32).toArray) }
set_option maxRecDepth 100000 in
theorem w_vars (os : Os) (args : Array Value) : ((laidWorld os).forCall (fun _ _ => 0) ⟨#[], args, []⟩).variablesB Tryd.prog = true := by kernel_rfl
set_option maxRecDepth 100000 in
theorem w_rows (os : Os) (args : Array Value) : (((laidWorld os).forCall (fun _ _ => 0) ⟨#[], args, []⟩).heap.toList.drop Tryd.prog.globals.size).take ((begin Tryd.prog (fun _ _ => 0) default).world.heap.size - Tryd.prog.globals.size) =
      (begin Tryd.prog (fun _ _ => 0) default).world.heap.toList.drop Tryd.prog.globals.size := by kernel_rfl
set_option maxRecDepth 100000 in
theorem w_laid (os : Os) (args : Array Value) : laidMet Tryd.prog laidL ((laidWorld os).forCall (fun _ _ => 0) ⟨#[], args, []⟩).memory :=
  laidMet_of_run' 8 (by kernel_rfl) (by kernel_rfl)
theorem laidH {W : World} (h : laidMet Tryd.prog laidL W) : laidMetH Tryd.prog laidL W := h
attribute [irreducible] laidWorld
end Go.Proofs.YtahdekllphehkaaDoor
