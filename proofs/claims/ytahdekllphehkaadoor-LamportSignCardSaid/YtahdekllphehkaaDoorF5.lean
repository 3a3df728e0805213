/- Arguments opened: three numbers; no statement of the seat is proved here. -/
import Derived.Test.YtahdekllphehkaaDoorF4
set_option linter.unusedVariables false
set_option linter.unusedSimpArgs false
namespace Go.Proofs.YtahdekllphehkaaDoor
open Go.ChangeShapes Go.WideShapes Go.ChangeAt Go.RowKit Go.WL Go.Spec
section
variable {H : Type} {enc : TypeId × Value → H} {P : Program} {W : World} {base b0 : Nat} {sp : Nat → Bool} {hd : Bool} {r : Reach} {t e u : TypeId} {v : Value} {d : DataW H} {ps : List MemPlace}
theorem arr_at {k m i : Nat} {cs : List Value} {x : DataW H × List MemPlace} (ht : P.underlying t = some (.array k e)) (h : DataW.trod enc P W base sp hd m t cs = some x) (hi : i < k) (c : Nat) (hc : P.cellsOf e = c) :
    ∃ m' y, DataW.trod enc P W base sp hd m' e ((cs.drop (i * c)).take c) = some y := by
  obtain ⟨xs, m', rfl, _, hlen, hxl, hat⟩ := DataW.trod_array ht h
  have h1 := hat i hi
  rw [hc, List.getElem?_eq_getElem (by omega)] at h1
  exact ⟨m', _, h1⟩
theorem arr_length {k m : Nat} {cs : List Value} {x : DataW H × List MemPlace} (ht : P.underlying t = some (.array k e)) (h : DataW.trod enc P W base sp hd m t cs = some x) : cs.length = P.cellsOf t := by
  obtain ⟨_, _, _, _, hlen, _, _⟩ := DataW.trod_array ht h
  exact hlen
theorem ints3_of (ht : P.underlying t = some (.array 3 e)) (he : P.underlying e = some (.int .i64)) (hce : P.cellsOf e = 1) (hct : P.cellsOf t = 3) (hval : Value.okWide P W r b0 t v) (h : DataW.Trod enc P W base sp hd t v d ps) :
    ∃ x y z : Int, v = .agg [Value.int .i64 x, Value.int .i64 y, Value.int .i64 z].toArray ∧ (-9223372036854775808 ≤ x ∧ x ≤ 9223372036854775807) ∧ (-9223372036854775808 ≤ y ∧ y ≤ 9223372036854775807) ∧ (-9223372036854775808 ≤ z ∧ z ≤ 9223372036854775807) := by
  obtain ⟨cs, rfl⟩ := array_of ht hval
  obtain ⟨m, hm⟩ := h
  rw [show (Value.agg cs.toArray).cells.toList = cs from rfl] at hm
  have hl := arr_length ht hm
  rw [hct] at hl
  obtain ⟨a, b, c, rfl⟩ : ∃ a b c, cs = [a, b, c] := by
    match cs, hl with
    | [a, b, c], _ => exact ⟨a, b, c, rfl⟩
  obtain ⟨_, _, g0⟩ := arr_at (i := 0) ht hm (by decide) 1 hce
  obtain ⟨_, _, g1⟩ := arr_at (i := 1) ht hm (by decide) 1 hce
  obtain ⟨_, _, g2⟩ := arr_at (i := 2) ht hm (by decide) 1 hce
  obtain ⟨x, ex, hx⟩ := i64_cell he g0
  obtain ⟨y, ey, hy⟩ := i64_cell he g1
  obtain ⟨z, ez, hz⟩ := i64_cell he g2
  obtain rfl : a = .int .i64 x := by simpa using ex
  obtain rfl : b = .int .i64 y := by simpa using ey
  obtain rfl : c = .int .i64 z := by simpa using ez
  exact ⟨x, y, z, rfl, hx, hy, hz⟩
end
end Go.Proofs.YtahdekllphehkaaDoor
