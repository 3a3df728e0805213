/- Arguments opened: acts; no statement of the seat is proved here. -/
import Derived.Test.YtahdekllphehkaaF1
import Derived.Test.YtahdekllphehkaaS3
set_option linter.unusedVariables false
set_option linter.unusedSimpArgs false
namespace Go.Proofs.Ytahdekllphehkaa
open Go.ChangeShapes Go.WideShapes Go.ChangeAt Go.RowKit Go.WL Go.Spec
section
variable {H : Type} {enc : TypeId × Value → H} {W : World} {base b0 : Nat} {sp : Nat → Bool} {hd : Bool} {r : Reach} {v : Value} {d : DataW H} {ps : List MemPlace}
theorem u8_cell {P : Program} {t : TypeId} {m : Nat} {cs : List Value} {x : DataW H × List MemPlace} (ht : P.underlying t = some (.int .u8)) (h : DataW.trod enc P W base sp hd m t cs = some x) : ∃ n : UInt8, cs = [U8 n] := by
  obtain ⟨n, rfl, _, hwf⟩ := DataW.trod_int ht h
  have hr : 0 ≤ n ∧ n < 256 := by
    simp [Lit.wf, IntKind.min, IntKind.max, IntKind.signed, IntKind.bits] at hwf
    omega
  refine ⟨UInt8.ofNat n.toNat, ?_⟩
  have : n.toNat < 256 := by omega
  congr 2
  simp [UInt8.toNat_ofNat', Nat.mod_eq_of_lt this]
  omega
set_option maxRecDepth 100000 in
theorem act_cells {m : Nat} {cs : List Value} {x : DataW H × List MemPlace} (h : DataW.trod enc Try.prog W base sp hd m 35 cs = some x) : ∃ a : Ac, cs = acC a ∧ a.ok := by
  have hl : cs.length = 4 := (struct_length Try.underlying35 h).trans (by kernel_rfl)
  obtain ⟨_, _, h0⟩ := part_at (i := 0) Try.underlying35 h 0 5 1 rfl (by kernel_rfl)
  obtain ⟨_, _, h1⟩ := part_at (i := 1) Try.underlying35 h 1 3 1 rfl (by kernel_rfl)
  obtain ⟨_, _, h2⟩ := part_at (i := 2) Try.underlying35 h 2 3 1 rfl (by kernel_rfl)
  obtain ⟨_, _, h3⟩ := part_at (i := 3) Try.underlying35 h 3 5 1 rfl (by kernel_rfl)
  obtain ⟨k, e0⟩ := u8_cell Try.underlying5 h0
  obtain ⟨i, e1, hi⟩ := i64_cell Try.underlying3 h1
  obtain ⟨n, e2, hn⟩ := i64_cell Try.underlying3 h2
  obtain ⟨q, e3⟩ := u8_cell Try.underlying5 h3
  refine ⟨⟨k, i, n, q⟩, ?_, hi, hn⟩
  obtain ⟨a, b, c, z, rfl⟩ : ∃ a b c z, cs = [a, b, c, z] := by
    match cs, hl with
    | [a, b, c, z], _ => exact ⟨a, b, c, z, rfl⟩
  obtain rfl : a = U8 k := by simpa using e0
  obtain rfl : b = .int .i64 i := by simpa using e1
  obtain rfl : c = .int .i64 n := by simpa using e2
  obtain rfl : z = U8 q := by simpa using e3
  rfl
theorem act_of {m : Nat} (hval : Value.okWide Try.prog W r b0 35 v) (h : DataW.Trod enc Try.prog W base sp hd 35 v d ps) : ∃ a : Ac, v = .agg (acC a).toArray ∧ a.ok := by
  obtain ⟨cs, rfl⟩ := struct_of Try.underlying35 hval
  obtain ⟨m, hm⟩ := h
  obtain ⟨a, e, ha⟩ := act_cells hm
  have : cs = acC a := e
  rw [this]
  exact ⟨a, rfl, ha⟩
theorem asAt_of_trod {m : Nat} {cs : List Value} {x : DataW H × List MemPlace} (h : DataW.trod enc Try.prog W 0 sp hd m 28 cs = some x) : ∃ v l, cs = [v] ∧ AsAt W v l ∧ v.oneCell' = true := by
  have hce : Try.prog.cellsOf 35 = 4 := by kernel_rfl
  rcases DataW.trod_slice Try.underlying28 h with ⟨rfl, _⟩ | ⟨a, len, cap, elems, rest, n, _, rfl, rfl, _, hl, hm, hlen, hel, _, _⟩
  · exact ⟨_, [], rfl, ⟨none, 0, rfl, by simp, by simp, .inl rfl⟩, rfl⟩
  · rw [hce] at hel
    have hex : ∀ i, i < len → ∃ v : Ac, v.ok ∧ ∀ j u, (acC v)[j]? = some u → W.cell? ((a.add (i * 4)).add j) = some u := by
      intro i hi
      have h1 := hel i hi
      rw [List.getElem?_eq_getElem (by omega)] at h1
      obtain ⟨cs', hc1, hc2⟩ := Option.bind_eq_some_iff.1 h1
      obtain ⟨v, rfl, hv⟩ := act_cells hc2
      refine ⟨v, hv, fun j u hj => ?_⟩
      have hj' : j < 4 := (List.getElem?_eq_some_iff.1 hj).1
      rw [(cells_of hc1).2 j hj', hj]
    obtain ⟨l, hll, hl2⟩ := list_of hex
    have hmx : l.length ≤ 9223372036854775807 := by rw [hll]; unfold maxLen at *; omega
    refine ⟨_, l, rfl, ⟨some a, cap, by rw [hll], hmx, ?_, ?_⟩, rfl⟩
    · intro x hx
      obtain ⟨i, hi⟩ := List.mem_iff_getElem?.1 hx
      exact (hl2 i x hi).1
    by_cases h0 : l = []
    · exact .inl h0
    · obtain ⟨b, off, spot⟩ := a
      have hpos : 0 < l.length := List.length_pos_iff.2 h0
      have hspot : spot = none := by
        have h1 := (hl2 0 _ (List.getElem?_eq_getElem hpos)).2 0 (U8 l[0].kd) rfl
        simp only [Nat.zero_mul, Addr.add, if_true] at h1
        cases spot with
        | none => rfl
        | some s => simp [World.cell?] at h1; split at h1 <;> simp at h1
      subst hspot
      refine .inr ⟨b, off, rfl, fun k x j u hx hu => ?_⟩
      have h2 := (hl2 k x hx).2 j u hu
      rw [add_mk, add_mk] at h2
      exact h2
end
end Go.Proofs.Ytahdekllphehkaa
