/- Arguments opened: hashes, structs; no statement of the seat is proved here. -/
import Derived.Test.YtahdekllphehkaaDoorF3
import Derived.ChangeArms
set_option linter.unusedVariables false
set_option linter.unusedSimpArgs false
namespace Go.Proofs.YtahdekllphehkaaDoor
open Go.ChangeShapes Go.WideShapes Go.ChangeAt Go.RowKit Go.WL Go.Spec
section
variable {H : Type} {enc : TypeId × Value → H} {P : Program} {W : World} {base b0 : Nat} {sp : Nat → Bool} {hd : Bool} {r : Reach} {t e u : TypeId} {v : Value} {d : DataW H} {ps : List MemPlace}
theorem part_of {fs : Array Field} {f : Field} {m i : Nat} {cs : List Value} {x : DataW H × List MemPlace} (ht : P.underlying t = some (.struct fs)) (h : DataW.trod enc P W base sp hd m t cs = some x) (hf : fs[i]? = some f) :
    ∃ m' y, DataW.trod enc P W base sp hd m' f.type ((cs.drop f.offset).take (P.cellsOf f.type)) = some y := by
  obtain ⟨xs, m', _, _, _, hl, hat⟩ := DataW.trod_struct ht h
  have hi : i < xs.length := by
    rw [hl]
    rcases Nat.lt_or_ge i fs.size with h1 | h1
    · exact h1
    · rw [Array.getElem?_eq_none h1] at hf; cases hf
  exact ⟨m', xs[i], by rw [hat i f hf, List.getElem?_eq_getElem hi]⟩
theorem part_at {fs : Array Field} {m i : Nat} {cs : List Value} {x : DataW H × List MemPlace} (ht : P.underlying t = some (.struct fs)) (h : DataW.trod enc P W base sp hd m t cs = some x) (off : Nat) (T : TypeId) (k : Nat) (hf : (fs[i]?).map (fun f => (f.offset, f.type)) = some (off, T)) (hk : P.cellsOf T = k) :
    ∃ m' y, DataW.trod enc P W base sp hd m' T ((cs.drop off).take k) = some y := by
  obtain ⟨f, hf1, hf2⟩ := Option.map_eq_some_iff.1 hf
  obtain ⟨m', y, hy⟩ := part_of ht h hf1
  simp only [Prod.mk.injEq] at hf2
  obtain ⟨rfl, rfl⟩ := hf2
  exact ⟨m', y, by rw [← hk]; exact hy⟩
theorem struct_length {fs : Array Field} {m : Nat} {cs : List Value} {x : DataW H × List MemPlace} (ht : P.underlying t = some (.struct fs)) (h : DataW.trod enc P W base sp hd m t cs = some x) : cs.length = P.cellsOf t := by
  obtain ⟨_, _, _, _, hl, _⟩ := DataW.trod_struct ht h
  exact hl
theorem struct_of {fs : Array Field} (ht : P.underlying t = some (.struct fs)) (hval : Value.okWide P W r b0 t v) : ∃ cs : List Value, v = .agg cs.toArray := by
  unfold Value.okWide at hval
  rw [ht] at hval
  obtain ⟨cs, rfl, _⟩ := hval
  exact ⟨cs.toList, by simp⟩
theorem array_of {k : Nat} (ht : P.underlying t = some (.array k e)) (hval : Value.okWide P W r b0 t v) : ∃ cs : List Value, v = .agg cs.toArray := by
  unfold Value.okWide at hval
  rw [ht] at hval
  obtain ⟨cs, rfl, _⟩ := hval
  exact ⟨cs.toList, by simp⟩
theorem i64_cell {m : Nat} {cs : List Value} {x : DataW H × List MemPlace} (ht : P.underlying t = some (.int .i64)) (h : DataW.trod enc P W base sp hd m t cs = some x) : ∃ n : Int, cs = [.int .i64 n] ∧ -9223372036854775808 ≤ n ∧ n ≤ 9223372036854775807 := by
  obtain ⟨n, hn, _, hwf⟩ := DataW.trod_int ht h
  refine ⟨n, hn, ?_⟩
  simp [Lit.wf, IntKind.min, IntKind.max, IntKind.signed, IntKind.bits] at hwf
  omega
theorem str_cell {m : Nat} {cs : List Value} {x : DataW H × List MemPlace} (ht : P.underlying t = some .string) (h : DataW.trod enc P W base sp hd m t cs = some x) : ∃ l : Bytes, cs = [.string (bs l)] ∧ l.length ≤ maxLen := by
  obtain ⟨s, hs, _, hl⟩ := DataW.trod_string ht h
  exact ⟨s.data.toList, by rw [bs_of]; exact hs, hl⟩
theorem hash_cell {m : Nat} {cs : List Value} {x : DataW H × List MemPlace} (ht : P.underlying t = some (.array 32 u)) (hu : P.underlying u = some (.int .u8)) (hcu : P.cellsOf u = 1) (hct : P.cellsOf t = 32) (h : DataW.trod enc P W base sp hd m t cs = some x) : ∃ g : Hash, cs = hc g :=
  hash_of (bytes_of_trod ht hu hcu hct h)
theorem hashv_of (ht : P.underlying t = some (.array 32 u)) (hu : P.underlying u = some (.int .u8)) (hcu : P.cellsOf u = 1) (hct : P.cellsOf t = 32) (hval : Value.okWide P W r b0 t v) (h : DataW.Trod enc P W base sp hd t v d ps) : ∃ g : Hash, v = HV g := by
  obtain ⟨cs, rfl⟩ := array_of ht hval
  obtain ⟨m, hm⟩ := h
  obtain ⟨g, hg⟩ := hash_cell ht hu hcu hct hm
  refine ⟨g, ?_⟩
  have : cs = hc g := hg
  rw [this]; rfl
theorem cut_at (cs : List Value) (a b : Nat) : cs.drop a = (cs.drop a).take b ++ cs.drop (a + b) := by rw [← List.drop_drop, List.take_append_drop]
set_option maxRecDepth 100000 in
theorem claim_of {m : Nat} (hval : Value.okWide Tryd.prog W r b0 76 v) (h : DataW.Trod enc Tryd.prog W base sp hd 76 v d ps) : ∃ (cl cr : Hash) (I N : Int), v = .agg (hc cl ++ (hc cr ++ [Value.int .i64 I, Value.int .i64 N])).toArray ∧
    -9223372036854775808 ≤ I ∧ I ≤ 9223372036854775807 ∧ -9223372036854775808 ≤ N ∧ N ≤ 9223372036854775807 := by
  obtain ⟨cs, rfl⟩ := struct_of Tryd.underlying76 hval
  obtain ⟨m, hm⟩ := h
  rw [show (Value.agg cs.toArray).cells.toList = cs from rfl] at hm
  have hc25 : Tryd.prog.cellsOf 25 = 32 := by kernel_rfl
  have hc5 : Tryd.prog.cellsOf 5 = 1 := by kernel_rfl
  have hc3 : Tryd.prog.cellsOf 3 = 1 := by kernel_rfl
  have hl : cs.length = 66 := (struct_length Tryd.underlying76 hm).trans (by kernel_rfl)
  obtain ⟨_, _, h0⟩ := part_at (i := 0) Tryd.underlying76 hm 0 25 32 rfl (by kernel_rfl)
  obtain ⟨_, _, h1⟩ := part_at (i := 1) Tryd.underlying76 hm 32 25 32 rfl (by kernel_rfl)
  obtain ⟨_, _, h2⟩ := part_at (i := 2) Tryd.underlying76 hm 64 3 1 rfl (by kernel_rfl)
  obtain ⟨_, _, h3⟩ := part_at (i := 3) Tryd.underlying76 hm 65 3 1 rfl (by kernel_rfl)
  obtain ⟨cl, e0⟩ := hash_cell Tryd.underlying25 Tryd.underlying5 hc5 hc25 h0
  obtain ⟨cr, e1⟩ := hash_cell Tryd.underlying25 Tryd.underlying5 hc5 hc25 h1
  obtain ⟨I, e2, I1, I2⟩ := i64_cell Tryd.underlying3 h2
  obtain ⟨N, e3, N1, N2⟩ := i64_cell Tryd.underlying3 h3
  refine ⟨cl, cr, I, N, ?_, I1, I2, N1, N2⟩
  have s0 := cut_at cs 0 32
  have s1 := cut_at cs 32 32
  have s2 := cut_at cs 64 1
  have s3 := cut_at cs 65 1
  simp only [Nat.reduceAdd] at s0 s1 s2 s3
  rw [e0] at s0
  rw [e1] at s1
  rw [e2] at s2
  rw [e3, List.drop_eq_nil_of_le (show cs.length ≤ 66 by omega)] at s3
  rw [s3] at s2
  rw [s2] at s1
  rw [s1, List.drop_zero] at s0
  rw [s0]
  rfl
end
end Go.Proofs.YtahdekllphehkaaDoor
