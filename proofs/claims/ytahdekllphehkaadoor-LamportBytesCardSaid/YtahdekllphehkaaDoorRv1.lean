/- Laid by the kit's shelf: what slices.Reverse does in the seat's program, at hashes; no statement of the seat is proved here. -/
import Derived.Shelf.SlicesQ.Reverse
import Derived.KernelRfl
import Derived.Test.YtahdekllphehkaaDoorA9
import Derived.Test.YtahdekllphehkaaDoorL12
set_option linter.unusedVariables false
namespace Go.Proofs.YtahdekllphehkaaDoor
open Go.WL Go.Spec Go.Shelf Go.Sort
def renRev : Go.Shelf.Ren := ⟨fun | 35 => 115 | n => n, fun | 23 => 25 | n => n, fun x => x⟩
theorem laysRev : SlLaysE0.n35 Tryd.prog renRev := {
  mixed := by kernel_rfl
  f35 := ⟨Tryd.f115.name, by decide, Tryd.func115.trans (congrArg some (by kernel_rfl))⟩
  t0 := Tryd.underlying0
  a0 := Tryd.isAgg0
  z0 := Tryd.sizeOf0
  v0 := Tryd.zeroValue0
  t3 := Tryd.underlying3
  a3 := Tryd.isAgg3
  z3 := Tryd.sizeOf3
  v3 := Tryd.zeroValue3
  t4 := Tryd.underlying4
  a4 := Tryd.isAgg4
  z4 := Tryd.sizeOf4
  v4 := Tryd.zeroValue4
  t22 := Tryd.underlying22
  a22 := Tryd.isAgg22
  z22 := Tryd.sizeOf22
  v22 := Tryd.zeroValue22 }
theorem flatK_hc (d : Array Hash) : (flatK hc 32 d).toList = d.toList.flatMap hc := by
  apply List.ext_getElem?
  intro t
  by_cases ht : t < d.size * 32
  · have h1 : t / 32 < d.toList.length := by rw [Array.length_toList]; omega
    have h2 := flat_at d.toList (t / 32) (t % 32) h1 (by omega)
    rw [show 32 * (t / 32) + t % 32 = t by omega] at h2
    rw [h2, Array.getElem?_toList, Array.getElem?_eq_getElem (by rw [size_flatK]; exact ht)]
    have h3 := get_flatK hc 32 d t ht
    rw [getElem!_pos _ t (by rw [size_flatK]; exact ht)] at h3
    rw [h3, getElem!_pos d (t / 32) (by omega), getElem!_pos _ (t % 32) (by rw [hc_length]; omega), List.getElem?_eq_getElem (by rw [hc_length]; omega)]
    rfl
  · rw [List.getElem?_eq_none (by simp; omega), List.getElem?_eq_none (by rw [flat_length, Array.length_toList]; omega)]
theorem putCells_flat (d : Array Hash) (c : Array Value) (h : d.size * 32 ≤ c.size) : (putCells id 0 (flatK hc 32 d) c).toList.take (d.size * 32) = d.toList.flatMap hc := by
  rw [← flatK_hc]
  apply List.ext_getElem?
  intro t
  by_cases ht : t < d.size * 32
  · rw [List.getElem?_take_of_lt ht, Array.getElem?_toList, Array.getElem?_toList, Array.getElem?_eq_getElem (by simp [putCells]; omega), Array.getElem?_eq_getElem (by rw [size_flatK]; exact ht)]
    simp only [putCells, Array.getElem_mapIdx, size_flatK, Nat.zero_add, Nat.sub_zero, id]
    rw [if_pos ⟨Nat.zero_le _, ht⟩, getElem!_pos _ t (by rw [size_flatK]; exact ht)]
  · rw [List.getElem?_eq_none (by simp; omega), List.getElem?_eq_none (by simp; omega)]
theorem reverse_calls (l : List Hash) (a : Option Nat) (cap : Nat) (w : World) (hx : (Ent.row a cap l.length 25 32 (l.flatMap hc)).ok w) (hll : l.length ≤ 1099511627776) :
    Calls Tryd.prog 115 #[rowV a l.length cap] w fun e w' => e = .returned (.tuple #[]) ∧ Cl w a.toList [.row a cap l.length 25 32 (l.reverse.flatMap hc)] w' := by
  have hx0 : w.ownsRow 0 25 32 (rowV a l.length cap) l.length (l.flatMap hc) := hx
  rcases hx0.2 with ⟨h1, h2⟩ | ⟨g, cap', cur, h1, _, hg, hnc, hcm, hcz, htake⟩
  · have hl : l = [] := List.eq_nil_of_length_eq_zero h2
    subst hl
    cases a with
    | some g => simp [rowV] at h1
    | none =>
      refine (AnyQ.slices_Reverse_empty laysRev none cap w).mono fun e w' ⟨h1, h2⟩ => ⟨h1, ?_⟩
      subst h2
      exact Cl.lent1 hx
  · cases a with
    | none => simp [rowV] at h1
    | some g0 =>
      simp only [rowV, Option.map_some, Value.slice.injEq, Option.some.injEq, Addr.mk.injEq, and_true, true_and] at h1
      obtain ⟨rfl, rfl⟩ := h1
      have hsz : l.length * 32 ≤ cur.size := by rw [hcz]; exact Nat.mul_le_mul_right _ hnc
      have hH : HoldsK hc 32 w g0 0 l.toArray := by
        intro j hj
        rw [size_flatK, List.size_toArray] at hj
        rw [Nat.zero_add]
        refine ⟨?_, frozen_out hg _ (.inr (Nat.zero_le _))⟩
        rw [getElem!_pos _ j (by rw [size_flatK, List.size_toArray]; exact hj), cell_of_row w g0 j cur 25 (0, 0) hg]
        have e1 : (flatK hc 32 l.toArray).toList[j]? = (l.flatMap hc)[j]? := by rw [flatK_hc]
        rw [Array.getElem?_toList, Array.getElem?_eq_getElem (by rw [size_flatK, List.size_toArray]; exact hj), ← htake, List.getElem?_take_of_lt hj, Array.getElem?_toList] at e1
        rw [← e1]; rfl
      have hc0 := AnyQ.slices_Reverse laysRev 32 (fun w => run_isAgg ti25 w) (fun w => run_size ti25 w) hc hc_length (fun x v hv => hc_one x v hv) g0 0 cap l.toArray w hH (by rw [List.size_toArray]; omega)
      rw [List.size_toArray] at hc0
      refine hc0.mono fun e w' ⟨h1, n, h2⟩ => ⟨h1, ?_⟩
      subst h2
      have hrs : l.toArray.reverse.size = l.length := by simp
      have hb : (putRowK hc 32 (Sort.ahead w n) g0 0 l.toArray.reverse).heap[g0]? = some (.cells (putCells id 0 (flatK hc 32 l.toArray.reverse) cur) 25 (0, 0)) := by
        unfold putRowK putRow mapBlock
        simp [Sort.ahead, Array.getElem?_modify, hg, onCells]
      refine ⟨rfl, rfl, rfl, by simp [putRowK, putRow, mapBlock, Sort.ahead], fun k hk hkE => ?_, fun x hx' => ?_, fun x hx' b hb' => ?_, by simp [Ent.fp]⟩
      · unfold putRowK putRow mapBlock
        have : g0 ≠ k := fun e => hkE (by simp [e])
        simp [Sort.ahead, Array.getElem?_modify, this]
      · rw [List.mem_singleton] at hx'
        subst hx'
        refine ⟨by rw [flat_length, List.length_reverse]; omega, .inr ⟨g0, cap, _, rfl, Nat.zero_le _, hb, hnc, hcm, by simp [putCells, hcz], ?_⟩⟩
        have := putCells_flat l.toArray.reverse cur (by rw [hrs]; exact hsz)
        rw [hrs] at this
        rw [this]
        simp
      · rw [List.mem_singleton] at hx'
        subst hx'
        simp only [Ent.fp, Option.some.injEq] at hb'
        exact .inr (by simp [hb'])
end Go.Proofs.YtahdekllphehkaaDoor
