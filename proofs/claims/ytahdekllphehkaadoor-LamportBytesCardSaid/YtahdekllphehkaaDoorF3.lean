/- Arguments opened: integers, texts, arrays of hashes; no statement of the seat is proved here. -/
import Derived.Test.YtahdekllphehkaaDoorF0
import Derived.ChangeMaps5
set_option linter.unusedVariables false
set_option linter.unusedSimpArgs false
namespace Go.Proofs.YtahdekllphehkaaDoor
open Go.ChangeShapes Go.WideShapes Go.ChangeAt Go.RowKit Go.WL Go.Spec
section
variable {H : Type} {enc : TypeId × Value → H} {P : Program} {W : World} {base b0 : Nat} {sp : Nat → Bool} {hd : Bool} {r : Reach} {t e u : TypeId} {v : Value} {d : DataW H} {ps : List MemPlace}
theorem int_of {k : IntKind} (ht : P.underlying t = some (.int k)) (hval : Value.okWide P W r b0 t v) (h : DataW.Trod enc P W base sp hd t v d ps) : ∃ n : Int, v = .int k n ∧ (Lit.int k n).wf = true := by
  obtain ⟨m, hm⟩ := h
  obtain ⟨n, hn, _, hwf⟩ := DataW.trod_int ht hm
  refine ⟨n, ?_, hwf⟩
  simp only [Value.okWide, ht, Cell.okWide] at hval
  cases v <;> simp_all [Cell.ok, Value.cells]
theorem u8_of (ht : P.underlying t = some (.int .u8)) (hval : Value.okWide P W r b0 t v) (h : DataW.Trod enc P W base sp hd t v d ps) : ∃ x : UInt8, v = U8 x := by
  obtain ⟨n, rfl, hwf⟩ := int_of ht hval h
  have hr : 0 ≤ n ∧ n < 256 := by
    simp [Lit.wf, IntKind.min, IntKind.max, IntKind.signed, IntKind.bits] at hwf
    omega
  refine ⟨UInt8.ofNat n.toNat, ?_⟩
  have : n.toNat < 256 := by omega
  congr 1
  simp [UInt8.toNat_ofNat', Nat.mod_eq_of_lt this]
  omega
theorem i64_of (ht : P.underlying t = some (.int .i64)) (hval : Value.okWide P W r b0 t v) (h : DataW.Trod enc P W base sp hd t v d ps) : ∃ n : Int, v = .int .i64 n ∧ -9223372036854775808 ≤ n ∧ n ≤ 9223372036854775807 := by
  obtain ⟨n, rfl, hwf⟩ := int_of ht hval h
  refine ⟨n, rfl, ?_⟩
  simp [Lit.wf, IntKind.min, IntKind.max, IntKind.signed, IntKind.bits] at hwf
  omega
theorem str_of (ht : P.underlying t = some .string) (hval : Value.okWide P W r b0 t v) (h : DataW.Trod enc P W base sp hd t v d ps) : ∃ l : Bytes, v = .string (bs l) ∧ l.length ≤ maxLen := by
  obtain ⟨s, rfl, _, _, hs⟩ := Go.ChangeMaps.open_string ht hval h
  exact ⟨s.data.toList, by rw [bs_of], hs⟩
theorem flat_of_parts {cs : List Value} {l : List Hash} (hlen : cs.length = 32 * l.length) (h : ∀ i v, l[i]? = some v → (cs.drop (i * 32)).take 32 = hc v) : cs = l.flatMap hc := by
  induction l generalizing cs with
  | nil => exact List.eq_nil_of_length_eq_zero (by simpa using hlen)
  | cons a l ih =>
    have h0 := h 0 a rfl
    simp only [Nat.zero_mul, List.drop_zero] at h0
    rw [List.flatMap_cons, ← h0]
    conv => lhs; rw [← List.take_append_drop 32 cs]
    congr 1
    refine ih (by rw [List.length_drop, hlen, List.length_cons]; omega) fun i v hv => ?_
    have := h (i + 1) v (by simpa using hv)
    rw [List.drop_drop]
    rwa [show 32 + i * 32 = (i + 1) * 32 by omega]
theorem hash_arr_of {k : Nat} (ht : P.underlying t = some (.array k e)) (he : P.underlying e = some (.array 32 u)) (hu : P.underlying u = some (.int .u8)) (hcu : P.cellsOf u = 1) (hce : P.cellsOf e = 32) (hct : P.cellsOf t = 32 * k)
    (hval : Value.okWide P W r b0 t v) (h : DataW.Trod enc P W base sp hd t v d ps) : ∃ l : List Hash, l.length = k ∧ v = .agg (l.flatMap hc).toArray := by
  have hv : ∃ cs, v = .agg cs := by
    unfold Value.okWide at hval
    rw [ht] at hval
    obtain ⟨cs, rfl, _⟩ := hval
    exact ⟨cs, rfl⟩
  obtain ⟨cs, rfl⟩ := hv
  obtain ⟨m, hm⟩ := h
  obtain ⟨xs, m', rfl, _, hlen, hxl, hat⟩ := DataW.trod_array ht hm
  rw [hct] at hlen
  have hex : ∀ i, i < k → ∃ v : Hash, ((Value.agg cs).cells.toList.drop (i * 32)).take 32 = hc v := by
    intro i hi
    have h1 := hat i hi
    rw [hce, List.getElem?_eq_getElem (by omega)] at h1
    exact hash_of (bytes_of_trod he hu hcu hce h1)
  obtain ⟨l, hl, hp⟩ := list_of hex
  refine ⟨l, hl, ?_⟩
  have := flat_of_parts (by rw [hl]; exact hlen) hp
  rw [← this]
  simp [Value.cells]
end
end Go.Proofs.YtahdekllphehkaaDoor
