/- Arguments opened: rough heads, arrays of numbers; no statement of the seat is proved here. -/
import Derived.Test.YtahdekllphehkaaDoorMFh
import Derived.Test.YtahdekllphehkaaDoorH4h
set_option linter.unusedVariables false
set_option linter.unusedSimpArgs false
namespace Go.Proofs.YtahdekllphehkaaDoor
open Go.ChangeShapes Go.WideShapes Go.ChangeAt Go.RowKit Go.WL Go.Spec
section
variable {H : Type} {enc : TypeId × Value → H} {P : Program} {W : World} {base b0 : Nat} {sp : Nat → Bool} {hd : Bool} {r : Reach} {t e u : TypeId} {v : Value} {d : DataW H} {ps : List MemPlace}
theorem i8_cell {m : Nat} {cs : List Value} {x : DataW H × List MemPlace} (ht : P.underlying t = some (.int .i8)) (h : DataW.trod enc P W base sp hd m t cs = some x) : ∃ n : Int, cs = [.int .i8 n] ∧ -128 ≤ n ∧ n ≤ 127 := by
  obtain ⟨n, hn, _, hwf⟩ := DataW.trod_int ht h
  refine ⟨n, hn, ?_⟩
  simp [Lit.wf, IntKind.min, IntKind.max, IntKind.signed, IntKind.bits] at hwf
  omega
theorem u16_of (ht : P.underlying t = some (.int .u16)) (hval : Value.okWide P W r b0 t v) (h : DataW.Trod enc P W base sp hd t v d ps) : ∃ n : Int, v = .int .u16 n ∧ 0 ≤ n ∧ n ≤ 65535 := by
  obtain ⟨n, rfl, hwf⟩ := int_of ht hval h
  refine ⟨n, rfl, ?_⟩
  simp [Lit.wf, IntKind.min, IntKind.max, IntKind.signed, IntKind.bits] at hwf
  omega
theorem u16s3_of (ht : P.underlying t = some (.array 3 e)) (he : P.underlying e = some (.int .u16)) (hce : P.cellsOf e = 1) (hct : P.cellsOf t = 3) (hval : Value.okWide P W r b0 t v) (h : DataW.Trod enc P W base sp hd t v d ps) :
    ∃ x y z : Int, v = .agg [Value.int .u16 x, Value.int .u16 y, Value.int .u16 z].toArray ∧ (0 ≤ x ∧ x ≤ 65535) ∧ (0 ≤ y ∧ y ≤ 65535) ∧ (0 ≤ z ∧ z ≤ 65535) := by
  obtain ⟨cs, rfl⟩ := array_of ht hval
  obtain ⟨m, hm⟩ := h
  rw [show (Value.agg cs.toArray).cells.toList = cs from rfl] at hm
  have hl := arr_length ht hm
  rw [hct] at hl
  obtain ⟨a, b, c, rfl⟩ : ∃ a b c, cs = [a, b, c] := by
    match cs, hl with
    | [a, b, c], _ => exact ⟨a, b, c, rfl⟩
  obtain ⟨_, _, g0⟩ := arr_at (i := 0) ht hm (by decide) 1 hce
  obtain ⟨_, _, g1⟩ := arr_at (i := 1) ht hm (by decide) 1 hce
  obtain ⟨_, _, g2⟩ := arr_at (i := 2) ht hm (by decide) 1 hce
  obtain ⟨x, ex, hx⟩ := u16_cell he g0
  obtain ⟨y, ey, hy⟩ := u16_cell he g1
  obtain ⟨z, ez, hz⟩ := u16_cell he g2
  obtain rfl : a = .int .u16 x := by simpa using ex
  obtain rfl : b = .int .u16 y := by simpa using ey
  obtain rfl : c = .int .u16 z := by simpa using ez
  exact ⟨x, y, z, rfl, hx, hy, hz⟩
set_option maxRecDepth 100000 in
theorem head_cells {m : Nat} {cs : List Value} {x : DataW H × List MemPlace} (h : DataW.trod enc Tryd.prog W base sp hd m 33 cs = some x) : ∃ (n : Int) (g : Hash), cs = headC n g ∧ -9223372036854775808 ≤ n ∧ n ≤ 9223372036854775807 := by
  have hc25 : Tryd.prog.cellsOf 25 = 32 := by kernel_rfl
  have hc5 : Tryd.prog.cellsOf 5 = 1 := by kernel_rfl
  have hl : cs.length = 33 := (struct_length Tryd.underlying33 h).trans (by kernel_rfl)
  obtain ⟨_, _, h0⟩ := part_at (i := 0) Tryd.underlying33 h 0 3 1 rfl (by kernel_rfl)
  obtain ⟨_, _, h1⟩ := part_at (i := 1) Tryd.underlying33 h 1 25 32 rfl (by kernel_rfl)
  obtain ⟨n, e0, hn⟩ := i64_cell Tryd.underlying3 h0
  obtain ⟨g, e1⟩ := hash_cell Tryd.underlying25 Tryd.underlying5 hc5 hc25 h1
  refine ⟨n, g, ?_, hn⟩
  have s0 := cut_at cs 0 1
  have s1 := cut_at cs 1 32
  simp only [Nat.reduceAdd] at s0 s1
  rw [e0] at s0
  rw [e1, List.drop_eq_nil_of_le (show cs.length ≤ 33 by omega), List.append_nil] at s1
  rw [s1, List.drop_zero] at s0
  rw [s0]; rfl
set_option maxRecDepth 100000 in
/-- The cells of a rough head. -/
theorem rough_cells {m : Nat} {cs : List Value} {x : DataW H × List MemPlace} (h : DataW.trod enc Tryd.prog W 0 sp hd m 36 cs = some x) : ∃ (x : Rg) (s : Value), cs = rgC x s ∧ x.ok ∧ HsAt W s x.path := by
  have hl : cs.length = 37 := (struct_length Tryd.underlying36 h).trans (by kernel_rfl)
  obtain ⟨_, _, h0⟩ := part_at (i := 0) Tryd.underlying36 h 0 33 33 rfl (by kernel_rfl)
  obtain ⟨_, _, h1⟩ := part_at (i := 1) Tryd.underlying36 h 33 3 1 rfl (by kernel_rfl)
  obtain ⟨_, _, h2⟩ := part_at (i := 2) Tryd.underlying36 h 34 9 1 rfl (by kernel_rfl)
  obtain ⟨_, _, h3⟩ := part_at (i := 3) Tryd.underlying36 h 35 34 1 rfl (by kernel_rfl)
  obtain ⟨_, _, h4⟩ := part_at (i := 4) Tryd.underlying36 h 36 22 1 rfl (by kernel_rfl)
  obtain ⟨n, g, e0, hn⟩ := head_cells h0
  obtain ⟨I, e1, hI⟩ := i64_cell Tryd.underlying3 h1
  obtain ⟨sg, e2, hsg⟩ := str_cell Tryd.underlying9 h2
  obtain ⟨M, e3, hM⟩ := i8_cell Tryd.underlying34 h3
  obtain ⟨s, l, e4, hs, _⟩ := hsAt_of_trod Tryd.underlying22 Tryd.underlying25 Tryd.underlying5 (by kernel_rfl) (by kernel_rfl) h4
  refine ⟨⟨n, g, I, sg, M, l⟩, s, ?_, ⟨hM, hn, hI, hsg⟩, hs⟩
  have s0 := cut_at cs 0 33
  have s1 := cut_at cs 33 1
  have s2 := cut_at cs 34 1
  have s3 := cut_at cs 35 1
  have s4 := cut_at cs 36 1
  simp only [Nat.reduceAdd] at s0 s1 s2 s3 s4
  rw [e0] at s0
  rw [e1] at s1
  rw [e2] at s2
  rw [e3] at s3
  rw [e4, List.drop_eq_nil_of_le (show cs.length ≤ 37 by omega)] at s4
  rw [s4] at s3
  rw [s3] at s2
  rw [s2] at s1
  rw [s1, List.drop_zero] at s0
  rw [s0]
  rfl
set_option maxRecDepth 100000 in
theorem rough_of {m : Nat} (hval : Value.okWide Tryd.prog W r b0 36 v) (h : DataW.Trod enc Tryd.prog W 0 sp hd 36 v d ps) : ∃ (x : Rg) (s : Value), v = RgV x s ∧ x.ok ∧ HsAt W s x.path := by
  obtain ⟨cs, rfl⟩ := struct_of Tryd.underlying36 hval
  obtain ⟨m, hm⟩ := h
  rw [show (Value.agg cs.toArray).cells.toList = cs from rfl] at hm
  obtain ⟨x, s, rfl, h1, h2⟩ := rough_cells hm
  exact ⟨x, s, rfl, h1, h2⟩
end
end Go.Proofs.YtahdekllphehkaaDoor
