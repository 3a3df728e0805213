/- Paths; no statement of the seat is proved here. -/
import Derived.Shelf.SlicesQ.Reverse
import Derived.KernelRfl
import Derived.Test.YtahdekllphehkaaDoorMA
import Derived.Test.YtahdekllphehkaaDoorML
import Derived.Test.YtahdekllphehkaaDoorMS
set_option linter.unusedVariables false
set_option linter.unusedSimpArgs false
namespace Go.Proofs.YtahdekllphehkaaDoor
open Go.WL Go.Spec Go.Shelf Go.Sort
def renRev : Go.Shelf.Ren := ⟨fun | 35 => 115 | n => n, fun | 23 => 25 | n => n, fun x => x⟩
theorem laysRev : SlLaysE0.n35 Tryd.prog renRev := {
  mixed := by kernel_rfl
  f35 := ⟨Tryd.f115.name, by decide, Tryd.func115.trans (congrArg some (by kernel_rfl))⟩
  t0 := Tryd.underlying0
  a0 := Tryd.isAgg0
  z0 := Tryd.sizeOf0
  v0 := Tryd.zeroValue0
  t3 := Tryd.underlying3
  a3 := Tryd.isAgg3
  z3 := Tryd.sizeOf3
  v3 := Tryd.zeroValue3
  t4 := Tryd.underlying4
  a4 := Tryd.isAgg4
  z4 := Tryd.sizeOf4
  v4 := Tryd.zeroValue4
  t22 := Tryd.underlying22
  a22 := Tryd.isAgg22
  z22 := Tryd.sizeOf22
  v22 := Tryd.zeroValue22 }
theorem flatK_hc (d : Array Hash) : (flatK hc 32 d).toList = d.toList.flatMap hc := by
  apply List.ext_getElem?
  intro t
  by_cases ht : t < d.size * 32
  · have h1 : t / 32 < d.toList.length := by rw [Array.length_toList]; omega
    have h2 := flat_at d.toList (t / 32) (t % 32) h1 (by omega)
    rw [show 32 * (t / 32) + t % 32 = t by omega] at h2
    rw [h2, Array.getElem?_toList, Array.getElem?_eq_getElem (by rw [size_flatK]; exact ht)]
    have h3 := get_flatK hc 32 d t ht
    rw [getElem!_pos _ t (by rw [size_flatK]; exact ht)] at h3
    rw [h3, getElem!_pos d (t / 32) (by omega), getElem!_pos _ (t % 32) (by rw [hc_length]; omega), List.getElem?_eq_getElem (by rw [hc_length]; omega)]
    rfl
  · rw [List.getElem?_eq_none (by simp; omega), List.getElem?_eq_none (by rw [flat_length, Array.length_toList]; omega)]
theorem putCells_flat (d : Array Hash) (c : Array Value) (h : d.size * 32 ≤ c.size) : (putCells id 0 (flatK hc 32 d) c).toList.take (d.size * 32) = d.toList.flatMap hc := by
  rw [← flatK_hc]
  apply List.ext_getElem?
  intro t
  by_cases ht : t < d.size * 32
  · rw [List.getElem?_take_of_lt ht, Array.getElem?_toList, Array.getElem?_toList, Array.getElem?_eq_getElem (by simp [putCells]; omega), Array.getElem?_eq_getElem (by rw [size_flatK]; exact ht)]
    simp only [putCells, Array.getElem_mapIdx, size_flatK, Nat.zero_add, Nat.sub_zero, id]
    rw [if_pos ⟨Nat.zero_le _, ht⟩, getElem!_pos _ t (by rw [size_flatK]; exact ht)]
  · rw [List.getElem?_eq_none (by simp; omega), List.getElem?_eq_none (by simp; omega)]
theorem reverse_calls (l : List Hash) (a : Option Nat) (cap : Nat) (w : World) (hx : (Ent.row a cap l.length 25 32 (l.flatMap hc)).ok w) (hll : l.length ≤ 1099511627776) :
    Calls Tryd.prog 115 #[rowV a l.length cap] w fun e w' => e = .returned (.tuple #[]) ∧ Cl w a.toList [.row a cap l.length 25 32 (l.reverse.flatMap hc)] w' := by
  have hx0 : w.ownsRow 0 25 32 (rowV a l.length cap) l.length (l.flatMap hc) := hx
  rcases hx0.2 with ⟨h1, h2⟩ | ⟨g, cap', cur, h1, _, hg, hnc, hcm, hcz, htake⟩
  · have hl : l = [] := List.eq_nil_of_length_eq_zero h2
    subst hl
    cases a with
    | some g => simp [rowV] at h1
    | none =>
      refine (AnyQ.slices_Reverse_empty laysRev none cap w).mono fun e w' ⟨h1, h2⟩ => ⟨h1, ?_⟩
      subst h2
      exact Cl.lent1 hx
  · cases a with
    | none => simp [rowV] at h1
    | some g0 =>
      simp only [rowV, Option.map_some, Value.slice.injEq, Option.some.injEq, Addr.mk.injEq, and_true, true_and] at h1
      obtain ⟨rfl, rfl⟩ := h1
      have hsz : l.length * 32 ≤ cur.size := by rw [hcz]; exact Nat.mul_le_mul_right _ hnc
      have hH : HoldsK hc 32 w g0 0 l.toArray := by
        intro j hj
        rw [size_flatK, List.size_toArray] at hj
        rw [Nat.zero_add]
        refine ⟨?_, frozen_out hg _ (.inr (Nat.zero_le _))⟩
        rw [getElem!_pos _ j (by rw [size_flatK, List.size_toArray]; exact hj), cell_of_row w g0 j cur 25 (0, 0) hg]
        have e1 : (flatK hc 32 l.toArray).toList[j]? = (l.flatMap hc)[j]? := by rw [flatK_hc]
        rw [Array.getElem?_toList, Array.getElem?_eq_getElem (by rw [size_flatK, List.size_toArray]; exact hj), ← htake, List.getElem?_take_of_lt hj, Array.getElem?_toList] at e1
        rw [← e1]; rfl
      have hc0 := AnyQ.slices_Reverse laysRev 32 (fun w => run_isAgg ti25 w) (fun w => run_size ti25 w) hc hc_length (fun x v hv => hc_one x v hv) g0 0 cap l.toArray w hH (by rw [List.size_toArray]; omega)
      rw [List.size_toArray] at hc0
      refine hc0.mono fun e w' ⟨h1, n, h2⟩ => ⟨h1, ?_⟩
      subst h2
      have hrs : l.toArray.reverse.size = l.length := by simp
      have hb : (putRowK hc 32 (Sort.ahead w n) g0 0 l.toArray.reverse).heap[g0]? = some (.cells (putCells id 0 (flatK hc 32 l.toArray.reverse) cur) 25 (0, 0)) := by
        unfold putRowK putRow mapBlock
        simp [Sort.ahead, Array.getElem?_modify, hg, onCells]
      refine ⟨rfl, rfl, rfl, by simp [putRowK, putRow, mapBlock, Sort.ahead], fun k hk hkE => ?_, fun x hx' => ?_, fun x hx' b hb' => ?_, by simp [Ent.fp]⟩
      · unfold putRowK putRow mapBlock
        have : g0 ≠ k := fun e => hkE (by simp [e])
        simp [Sort.ahead, Array.getElem?_modify, this]
      · rw [List.mem_singleton] at hx'
        subst hx'
        refine ⟨by rw [flat_length, List.length_reverse]; omega, .inr ⟨g0, cap, _, rfl, Nat.zero_le _, hb, hnc, hcm, by simp [putCells, hcz], ?_⟩⟩
        have := putCells_flat l.toArray.reverse cur (by rw [hrs]; exact hsz)
        rw [hrs] at this
        rw [this]
        simp
      · rw [List.mem_singleton] at hx'
        subst hx'
        simp only [Ent.fp, Option.some.injEq] at hb'
        exact .inr (by simp [hb'])
end Go.Proofs.YtahdekllphehkaaDoor

namespace Go.Proofs.YtahdekllphehkaaDoor
open Go.WL Go.Spec

/-- What a path is answered. -/
def pathR (l : List Hash) (i : Int) : List Hash := if i < 0 ∨ (l.length : Int) ≤ i then [] else pathL l i.toNat
def pathE (l : List Hash) (i : Int) : Int := if i < 0 ∨ (l.length : Int) ≤ i then 2 else 0
theorem pathR_bad {l : List Hash} {i : Int} (h : i < 0 ∨ (l.length : Int) ≤ i) : pathR l i = [] := if_pos h
theorem pathE_bad {l : List Hash} {i : Int} (h : i < 0 ∨ (l.length : Int) ≤ i) : pathE l i = 2 := if_pos h
theorem pathR_ok {l : List Hash} {k : Nat} (h : ¬ ((k : Int) < 0 ∨ (l.length : Int) ≤ (k : Int))) : pathR l (k : Int) = pathL l k := by unfold pathR; rw [if_neg h]; rfl
theorem pathE_ok {l : List Hash} {i : Int} (h : ¬ (i < 0 ∨ (l.length : Int) ≤ i)) : pathE l i = 0 := if_neg h
/-- A list of hashes that was handed out. -/
def OutHs (v : Value) (L1 : List Ent) (l : List Hash) : Prop := ∃ a cap, v = rowV a l.length cap ∧ L1 = [.row a cap l.length 25 32 (l.flatMap hc)]
theorem OutHs.at {w w0 : World} {E : List Nat} {v : Value} {L1 L : List Ent} {l : List Hash} (h : OutHs v L1 l) (hc : Cl w0 E L w) (hs : ∀ x ∈ L1, x ∈ L) : HsAt w v l := by
  obtain ⟨a, cap, rfl, rfl⟩ := h
  exact HsAt.row rfl (hc.own _ (hs _ (List.mem_singleton.2 rfl)))
theorem sliceT {w : World} {b off cap : Nat} {l : List Hash} (h : HsAt w (.slice (some ⟨b, off, none⟩) l.length cap) l) (q : Nat) (hq : q ≤ l.length) : HsAt w (.slice (some ⟨b, if cap = 0 then off else off + 0 * 32, none⟩) (q - 0) (cap - 0)) (l.take q) := by
  have := h.slice 0 q (Nat.zero_le _) hq
  rwa [List.drop_zero] at this
theorem sliceD {w : World} {b off cap : Nat} {l : List Hash} (h : HsAt w (.slice (some ⟨b, off, none⟩) l.length cap) l) (q : Nat) (hq : q ≤ l.length) : HsAt w (.slice (some ⟨b, if cap = q then off else off + q * 32, none⟩) (l.length - q) (cap - q)) (l.drop q) := by
  have := h.slice q l.length hq (Nat.le_refl _)
  rwa [List.take_of_length_le (by simp)] at this
theorem flat_snoc (l : List Hash) (x : Hash) : (l ++ [x]).flatMap hc = l.flatMap hc ++ hc x := by rw [List.flatMap_append, List.flatMap_singleton]
theorem depth_lt (n : Nat) : ∀ i, 1 ≤ n → depth i n < n := by
  induction n using Nat.strongRecOn with
  | _ n ih =>
    intro i h
    rcases Nat.lt_or_ge n 2 with h2 | h2
    · rw [depth_small h2]; omega
    · have h3 := sp_lt h2
      have h4 := sp_pos h2
      by_cases hs : i < sp n
      · rw [depth_left h2 hs]; have := ih (sp n) h3 i h4; omega
      · rw [depth_right h2 hs]; have := ih (n - sp n) (by omega) (i - sp n) (by omega); omega
theorem pathR_length (l : List Hash) (i : Int) : (pathR l i).length ≤ l.length := by
  unfold pathR
  split
  · simp
  · rw [pathL_length _ l _ (Nat.le_refl _)]
    rcases Nat.eq_zero_or_pos l.length with h | h
    · rw [h, depth_small (by decide)]; exact Nat.le_refl _
    · exact Nat.le_of_lt (depth_lt _ _ h)

theorem nilrow_cl {w0 w : World} {E : List Nat} {L : List Ent} (h : Cl w0 E L w) (e : TypeId) (size : Nat) : Cl w0 E (.row none 0 0 e size [] :: L) w :=
  ⟨h.os, h.tape, h.output, h.size, h.old, fun x hx => by
    rcases List.mem_cons.1 hx with rfl | hx
    · exact ⟨by simp, .inl ⟨rfl, rfl⟩⟩
    · exact h.own x hx, fun x hx b hb => by
    rcases List.mem_cons.1 hx with rfl | hx
    · cases hb
    · exact h.new x hx b hb, h.nodup⟩

set_option maxRecDepth 100000 in
set_option maxHeartbeats 1000000 in
theorem path_calls (v : Value) (l : List Hash) (i : Int) (w : World) (hs : HsAt w v l) (hll : l.length ≤ 4294967296) (hi1 : -9223372036854775808 ≤ i) (hi2 : i ≤ 9223372036854775807) (hg : GL w) :
    Calls Tryd.prog 41 #[v, .int .i64 i] w fun e w' => ∃ v' L1, e = .returned v' ∧ Cl w [] L1 w' ∧ ∃ u, v' = .tuple #[u, .int .i64 (pathE l i)] ∧ OutHs u L1 (pathR l i) := by
  have hs0 := hs
  obtain ⟨a0, cap0, rfl⟩ := hs0.len
  refine calls_of_CW (L := []) Tryd.func41 rfl (Nat.le_of_ble_eq_true rfl) (Cl.refl _) ?_
  refine CW.seq_k fun K1 hK1 => ?_
  refine CW.region ?_
  refine OW.q rfl rfl (yq_assign rfl (by (conv => lhs; whnf) <;> rfl)) ?_
  refine OW.q rfl rfl (yq_assign rfl (by (conv => lhs; whnf) <;> rfl)) ?_
  refine OW.nil ?_
  refine hK1 _ _ ?_
  refine CW.seq_k fun K2 hK2 => ?_
  refine CW.seq_k fun K3 hK3 => ?_
  refine CW.region ?_
  refine OW.q rfl rfl (yq_move rfl (by (conv => lhs; whnf) <;> rfl)) ?_
  refine OW.qb rfl rfl (yq_lss rfl (by (conv => lhs; whnf) <;> rfl) (by (conv => lhs; whnf) <;> rfl)) (fun b9 hb9 => ?_)
  refine OW.q rfl rfl (yq_move rfl (by (conv => lhs; whnf) <;> rfl)) ?_
  apply OW.segOr 5 [11, 12, 13, 14] 15 hb9
  · intro hb9e
    refine QW.q (by subst hb9e; rfl) rfl (yq_move rfl (by (conv => lhs; whnf) <;> rfl)) ?_
    refine QW.q (by subst hb9e; rfl) rfl (yq_move rfl (by (conv => lhs; whnf) <;> rfl)) ?_
    refine QW.q (by subst hb9e; rfl) rfl (yq_len_slice rfl ts22 (by (conv => lhs; whnf) <;> rfl)) ?_
    refine QW.qb (by subst hb9e; rfl) rfl (yq_geq rfl (by (conv => lhs; whnf) <;> rfl) (by (conv => lhs; whnf) <;> rfl)) (fun b14 hb14 => ?_)
    refine QW.q rfl rfl (yq_pick rfl (by (conv => lhs; whnf) <;> rfl) (by subst hb9e; ((conv => lhs; whnf) <;> rfl))) ?_
    exact QW.nil (SegM.mk (any_c (any_c (any_c (any_c any_n)))) (or_run hb9 hb9e hb14))
  · intro hb9e
    refine QW.skip (by subst hb9e; rfl) rfl ?_
    refine QW.skip (by subst hb9e; rfl) rfl ?_
    refine QW.skip (by subst hb9e; rfl) rfl ?_
    refine QW.skip (by subst hb9e; rfl) rfl ?_
    refine QW.q rfl rfl (yq_pick rfl (by (conv => lhs; whnf) <;> rfl) (by subst hb9e; ((conv => lhs; whnf) <;> rfl))) ?_
    exact QW.nil (SegM.mk (any_c (any_c (any_c (any_c any_n)))) (or_skip hb9 hb9e))
  · intro ρ15 b15 hA hb15
    obtain ⟨x11, x12, x13, x14, rfl⟩ := hA
    refine OW.nil ?_
    refine hK3 _ _ ?_
    refine CW.condq (by (conv => lhs; whnf) <;> rfl) hb15 (fun hc0 => ?_) (fun hc0 => ?_)
    · refine CW.seq_k fun K4 hK4 => ?_
      refine CW.region ?_
      refine OW.q rfl rfl (yq_assign rfl (by (conv => lhs; whnf) <;> rfl)) ?_
      refine OW.q rfl rfl (yq_assign rfl (by (conv => lhs; whnf) <;> rfl)) ?_
      refine OW.nil ?_
      refine hK4 _ _ ?_
      refine CW.ret ?_
      refine then_ret ?_
      -- ret (ret)
      refine fin2 (Or.inr rfl) rfl ⟨by decide, (by (conv => lhs; whnf) <;> rfl)⟩ ⟨by decide, (by (conv => lhs; whnf) <;> rfl)⟩ (fun w hw => ?_)
      refine ⟨_, [.row none 0 0 25 32 []], rfl, ?_, ?_⟩
      · exact nilrow_cl hw 25 32
      · rw [pathE_bad hc0, pathR_bad hc0]; exact ⟨_, rfl, none, 0, rfl, rfl⟩
    · obtain ⟨k, rfl⟩ : ∃ k : Nat, i = (k : Int) := ⟨i.toNat, by omega⟩
      have hkl : k < l.length := by omega
      obtain ⟨b, off, cp, hv, hcp⟩ := hs.place (fun e => by subst e; simp at hkl)
      rw [Value.slice.injEq] at hv
      obtain ⟨rfl, _, rfl⟩ := hv
      refine CW.skip ?_
      refine hK2 _ _ ?_
      refine CW.seq_k fun K5 hK5 => ?_
      refine CW.region ?_
      refine OW.q rfl rfl (yq_assign rfl (by (conv => lhs; whnf) <;> rfl)) ?_
      refine OW.nilrow 25 32 ?_
      refine OW.nil ?_
      refine hK5 _ _ ?_
      refine CW.seq_k fun K6 hK6 => ?_
      refine CW.block ?_
      refine CW.loop (σ := List Hash × (Nat × Nat × Nat) × Nat × List Hash) (fun p ρ L => match p with | (lc, (b, off, cp), ic, out) => ∃ a cap, Has ρ [(0, .slice (some ⟨b, off, none⟩) lc.length cp), (1, .int .i64 (ic : Int)), (6, rowV a out.length cap)] ∧ L = [.row a cap out.length 25 32 (out.flatMap hc)] ∧ HsAt w (.slice (some ⟨b, off, none⟩) lc.length cp) lc ∧ lc.length ≤ cp ∧ ic < lc.length ∧ lc.length + out.length ≤ l.length ∧ pathL l k = pathL lc ic ++ out.reverse) (fun p => p.1.length) ((l, (b, off, cap0), k, [])) ?_ ?_
      · exact ⟨none, 0, Has.mk ⟨(by (conv => lhs; whnf) <;> rfl), (by (conv => lhs; whnf) <;> rfl), (by (conv => lhs; whnf) <;> rfl), trivial⟩, rfl, hs, hcp, hkl, Nat.le_refl _, by simp⟩
      · rintro ⟨lc, ⟨b, off, cp⟩, ic, out⟩ _ _ ⟨a, cap, ⟨ρ', rfl⟩, rfl, hsc, hcc, hic, hlo, hpl⟩
        refine CW.seq_k fun K7 hK7 => ?_
        refine CW.seq_k fun K8 hK8 => ?_
        refine CW.region ?_
        refine OW.q rfl rfl (yq_move rfl (by (conv => lhs; whnf) <;> rfl)) ?_
        refine OW.q rfl rfl (yq_len_slice rfl ts22 (by (conv => lhs; whnf) <;> rfl)) ?_
        refine OW.q rfl rfl (yq_gtr rfl (by (conv => lhs; whnf) <;> rfl) (by (conv => lhs; whnf) <;> rfl)) ?_
        refine OW.nil ?_
        refine hK8 _ _ ?_
        refine CW.cond_dec (by (conv => lhs; whnf) <;> rfl) (fun hc2 => ?_) (fun hc2 => ?_)
        · have hl2 : 2 ≤ lc.length := by omega
          have hk1 := sp_pos hl2
          have hk2 := sp_lt hl2
          obtain ⟨q, hq⟩ : ∃ q, q = sp lc.length := ⟨_, rfl⟩
          rw [← hq] at hk1 hk2
          have hsp : spI (lc.length : Int) = (q : Int) := by rw [spI_nat, hq]
          have hT := sliceT hsc q (by omega)
          have hD := sliceD hsc q (by omega)
          have hlT : (lc.take q).length = q := by rw [List.length_take]; omega
          have hlD : (lc.drop q).length = lc.length - q := by rw [List.length_drop]
          refine CW.skip ?_
          refine hK7 _ _ ?_
          refine CW.block ?_
          refine CW.seq_k fun K9 hK9 => ?_
          refine CW.region ?_
          refine OW.q rfl rfl (yq_move rfl (by (conv => lhs; whnf) <;> rfl)) ?_
          refine OW.q rfl rfl (yq_len_slice rfl ts22 (by (conv => lhs; whnf) <;> rfl)) ?_
          refine OW.q rfl rfl (yq_call rfl rfl (.cons (by (conv => lhs; whnf) <;> rfl) .nil) en28 (fun w hw => split_c _ _ w hsp (by omega) (by omega))) ?_
          refine OW.q rfl rfl (yq_assign rfl (by (conv => lhs; whnf) <;> rfl)) ?_
          refine OW.nil ?_
          refine hK9 _ _ ?_
          refine CW.seq_k fun K10 hK10 => ?_
          refine CW.region ?_
          refine OW.q rfl rfl (yq_move rfl (by (conv => lhs; whnf) <;> rfl)) ?_
          refine OW.q rfl rfl (yq_move rfl (by (conv => lhs; whnf) <;> rfl)) ?_
          refine OW.q rfl rfl (yq_lss rfl (by (conv => lhs; whnf) <;> rfl) (by (conv => lhs; whnf) <;> rfl)) ?_
          refine OW.nil ?_
          refine hK10 _ _ ?_
          refine CW.cond_dec (by (conv => lhs; whnf) <;> rfl) (fun hc4 => ?_) (fun hc4 => ?_)
          · have hlt : ic < q := by omega
            refine CW.seq_k fun K11 hK11 => ?_
            refine CW.region ?_
            refine OW.q rfl rfl (yq_move rfl (by (conv => lhs; whnf) <;> rfl)) ?_
            refine OW.q rfl rfl (yq_move rfl (by (conv => lhs; whnf) <;> rfl)) ?_
            refine OW.q rfl rfl (yq_move rfl (by (conv => lhs; whnf) <;> rfl)) ?_
            refine OW.q rfl rfl (yq_slice_slice (l := q) (h := lc.length) rfl (by (conv => lhs; whnf) <;> rfl) ts22 ti25 ⟨_, _, (by (conv => lhs; whnf) <;> rfl), by omega, by omega⟩ rfl (by omega) (by omega)) ?_
            refine OW.q rfl rfl (yq_call rfl rfl (.cons (by (conv => lhs; whnf) <;> rfl) .nil) en24 (fun w hw => root_calls _ (lc.drop q) w (hD.mono hw) (by omega) (Cl_gl0 hw hg))) ?_
            refine OW.slicelit (vs := [HV (rootL (lc.drop q))]) rfl rfl rfl rfl ts22 ti25 tz25 (by decide) rfl (by decide) (by simp [HV_cells]) (by decide) (cs := hc (rootL (lc.drop q))) (by simp [HV_cells]) (fun bl => ?_)
            refine OW.append (news := hc (rootL (lc.drop q))) rfl rfl rfl (by (conv => lhs; whnf) <;> rfl) (by (conv => lhs; whnf) <;> rfl) ts22 ti25 tz25 (.tail .head) (blk_cells (List.mem_cons_self ..)) (by rw [hc_length]) (hc_one _) (hc_length _) (by decide) (by simp only [maxLen]; omega) (by omega) (fun a' cap' => ?_)
            refine OW.drop ((List.sublist_cons_self _ _).cons_cons _) ?_
            refine OW.q rfl rfl (yq_assign rfl (by (conv => lhs; whnf) <;> rfl)) ?_
            refine OW.nil ?_
            refine hK11 _ _ ?_
            refine CW.region ?_
            refine OW.q rfl rfl (yq_move rfl (by (conv => lhs; whnf) <;> rfl)) ?_
            refine OW.q rfl rfl (yq_move rfl (by (conv => lhs; whnf) <;> rfl)) ?_
            refine OW.q rfl rfl (yq_slice_slice (l := 0) (h := q) rfl (by (conv => lhs; whnf) <;> rfl) ts22 ti25 rfl ⟨_, _, (by (conv => lhs; whnf) <;> rfl), by omega, by omega⟩ (by omega) (by omega)) ?_
            refine OW.q rfl rfl (yq_assign rfl (by (conv => lhs; whnf) <;> rfl)) ?_
            refine OW.nil ?_
            refine ⟨(lc.take q, (b, if cp = 0 then off else off + 0 * 32, cp), ic, out ++ [rootL (lc.drop q)]), ⟨a', cap', Has.mk ⟨by simp only [hlT]; exact (by (conv => lhs; whnf) <;> rfl), (by (conv => lhs; whnf) <;> rfl), by simp only [List.length_append, List.length_singleton]; exact (by (conv => lhs; whnf) <;> rfl), trivial⟩, ?_, by simp only [hlT]; exact hT, by simp only [hlT]; omega, by simp only [hlT]; omega, by simp only [hlT, List.length_append, List.length_singleton]; omega, ?_⟩, by simp only [hlT]; omega⟩
            · simp only [flat_snoc, List.length_append, List.length_singleton]
            · rw [hpl, pathL_left hl2 (by rw [← hq]; exact hlt), ← hq]; simp
          · have hlt : ¬ ic < q := by omega
            have hiq : ((ic - q : Nat) : Int) = (ic : Int) - (q : Int) := by omega
            refine CW.seq_k fun K12 hK12 => ?_
            refine CW.region ?_
            refine OW.q rfl rfl (yq_move rfl (by (conv => lhs; whnf) <;> rfl)) ?_
            refine OW.q rfl rfl (yq_move rfl (by (conv => lhs; whnf) <;> rfl)) ?_
            refine OW.q rfl rfl (yq_move rfl (by (conv => lhs; whnf) <;> rfl)) ?_
            refine OW.q rfl rfl (yq_slice_slice (l := 0) (h := q) rfl (by (conv => lhs; whnf) <;> rfl) ts22 ti25 rfl ⟨_, _, (by (conv => lhs; whnf) <;> rfl), by omega, by omega⟩ (by omega) (by omega)) ?_
            refine OW.q rfl rfl (yq_call rfl rfl (.cons (by (conv => lhs; whnf) <;> rfl) .nil) en24 (fun w hw => root_calls _ (lc.take q) w (hT.mono hw) (by omega) (Cl_gl0 hw hg))) ?_
            refine OW.slicelit (vs := [HV (rootL (lc.take q))]) rfl rfl rfl rfl ts22 ti25 tz25 (by decide) rfl (by decide) (by simp [HV_cells]) (by decide) (cs := hc (rootL (lc.take q))) (by simp [HV_cells]) (fun bl => ?_)
            refine OW.append (news := hc (rootL (lc.take q))) rfl rfl rfl (by (conv => lhs; whnf) <;> rfl) (by (conv => lhs; whnf) <;> rfl) ts22 ti25 tz25 (.tail .head) (blk_cells (List.mem_cons_self ..)) (by rw [hc_length]) (hc_one _) (hc_length _) (by decide) (by simp only [maxLen]; omega) (by omega) (fun a' cap' => ?_)
            refine OW.drop ((List.sublist_cons_self _ _).cons_cons _) ?_
            refine OW.q rfl rfl (yq_assign rfl (by (conv => lhs; whnf) <;> rfl)) ?_
            refine OW.nil ?_
            refine hK12 _ _ ?_
            refine CW.region ?_
            refine OW.q rfl rfl (yq_move rfl (by (conv => lhs; whnf) <;> rfl)) ?_
            refine OW.q rfl rfl (yq_move rfl (by (conv => lhs; whnf) <;> rfl)) ?_
            refine OW.q rfl rfl (yq_slice_slice (l := q) (h := lc.length) rfl (by (conv => lhs; whnf) <;> rfl) ts22 ti25 ⟨_, _, (by (conv => lhs; whnf) <;> rfl), by omega, by omega⟩ rfl (by omega) (by omega)) ?_
            refine OW.q rfl rfl (yq_move rfl (by (conv => lhs; whnf) <;> rfl)) ?_
            refine OW.q rfl rfl (yq_move rfl (by (conv => lhs; whnf) <;> rfl)) ?_
            refine OW.q rfl rfl (yq_sub rfl (by (conv => lhs; whnf) <;> rfl) (by (conv => lhs; whnf) <;> rfl) (by omega)) ?_
            refine OW.q rfl rfl (yq_assign rfl (by (conv => lhs; whnf) <;> rfl)) ?_
            refine OW.q rfl rfl (yq_assign rfl (by (conv => lhs; whnf) <;> rfl)) ?_
            refine OW.nil ?_
            refine ⟨(lc.drop q, (b, if cp = q then off else off + q * 32, cp - q), ic - q, out ++ [rootL (lc.take q)]), ⟨a', cap', Has.mk ⟨by simp only [hlD]; exact (by (conv => lhs; whnf) <;> rfl), by simp only [hiq]; exact (by (conv => lhs; whnf) <;> rfl), by simp only [List.length_append, List.length_singleton]; exact (by (conv => lhs; whnf) <;> rfl), trivial⟩, ?_, by simp only [hlD]; exact hD, by simp only [hlD]; omega, by simp only [hlD]; omega, by simp only [hlD, List.length_append, List.length_singleton]; omega, ?_⟩, by simp only [hlD]; omega⟩
            · simp only [flat_snoc, List.length_append, List.length_singleton]
            · rw [hpl, pathL_right hl2 (by rw [← hq]; exact hlt), ← hq]; simp
        · have hl1 : lc.length < 2 := by omega
          rw [pathL_small _ hl1, List.nil_append] at hpl
          refine CW.exit ?_
          refine then_exit ?_
          refine then_exit ?_
          refine blockQ_hit ?_
          refine hK6 _ _ ?_
          refine CW.seq_k fun K13 hK13 => ?_
          refine CW.region ?_
          refine OW.q rfl rfl (yq_move rfl (by (conv => lhs; whnf) <;> rfl)) ?_
          refine OW.calle (K := fun v L1 => v = .tuple #[] ∧ L1 = [.row a cap out.length 25 32 (out.reverse.flatMap hc)]) a.toList [] rfl rfl rfl (by (conv => lhs; whnf) <;> rfl) (.cons (by (conv => lhs; whnf) <;> rfl) .nil) en115 (fun b hb => ⟨_, List.mem_cons_self .., by simpa [Ent.fp] using hb⟩) (List.nil_sublist _) (fun _ _ x hx => by cases hx) (fun w hw => (reverse_calls out a cap w (hw.own _ (List.mem_cons_self ..)) (by omega)).mono fun e w' ⟨h1, h2⟩ => ⟨_, _, h1, h2, rfl, rfl⟩) ?_
          rintro _ _ ⟨rfl, rfl⟩
          have hrl : out.length = (pathL l k).length := by rw [hpl, List.length_reverse]
          refine OW.nil ?_
          refine hK13 _ _ ?_
          refine CW.seq_k fun K14 hK14 => ?_
          refine CW.region ?_
          refine OW.q rfl rfl (yq_move rfl (by (conv => lhs; whnf) <;> rfl)) ?_
          refine OW.q rfl rfl (yq_assign rfl (by (conv => lhs; whnf) <;> rfl)) ?_
          refine OW.q rfl rfl (yq_assign rfl (by (conv => lhs; whnf) <;> rfl)) ?_
          refine OW.nil ?_
          refine hK14 _ _ ?_
          refine CW.ret ?_
          -- ret (ret)
          refine fin2 (Or.inr rfl) rfl ⟨by decide, (by (conv => lhs; whnf) <;> rfl)⟩ ⟨by decide, (by (conv => lhs; whnf) <;> rfl)⟩ (fun w hw => ?_)
          refine ⟨_, _, rfl, hw, ?_⟩
          rw [pathE_ok hc0, pathR_ok hc0]
          exact ⟨_, rfl, a, cap, by rw [hrl]; rfl, by rw [hpl]; simp⟩

end Go.Proofs.YtahdekllphehkaaDoor

namespace Go.Proofs.YtahdekllphehkaaDoor
open Go.WL Go.Spec

/-- What the document's function of a path tells, of lists shorter than m. -/
def RPathP (m : Nat) : Prop := ∀ (l : List Hash) (v : Value) (i : Int) (w : World), l.length < m → l.length ≤ 4294967296 → HsAt w v l → -9223372036854775808 ≤ i → i ≤ 9223372036854775807 →
    Calls Tryd.prog 42 #[v, .int .i64 i] w fun e w' => ∃ v' L1, e = .returned v' ∧ Cl w [] L1 w' ∧ ∃ u, v' = .tuple #[u, .int .i64 (pathE l i)] ∧ OutHs u L1 (pathR l i)

set_option maxRecDepth 100000 in
set_option maxHeartbeats 1000000 in
theorem rpath_step (m : Nat) (ih : RPathP m) : RPathP (m + 1) := by
  intro l v i w hlm hll hs hi1 hi2
  have hs0 := hs
  obtain ⟨a0, cap0, rfl⟩ := hs0.len
  refine calls_of_CW (L := []) Tryd.func42 rfl (Nat.le_of_ble_eq_true rfl) (Cl.refl _) ?_
  refine CW.seq_k fun K1 hK1 => ?_
  refine CW.region ?_
  refine OW.q rfl rfl (yq_assign rfl (by (conv => lhs; whnf) <;> rfl)) ?_
  refine OW.q rfl rfl (yq_assign rfl (by (conv => lhs; whnf) <;> rfl)) ?_
  refine OW.nil ?_
  refine hK1 _ _ ?_
  refine CW.seq_k fun K2 hK2 => ?_
  refine CW.seq_k fun K3 hK3 => ?_
  refine CW.region ?_
  refine OW.q rfl rfl (yq_move rfl (by (conv => lhs; whnf) <;> rfl)) ?_
  refine OW.qb rfl rfl (yq_lss rfl (by (conv => lhs; whnf) <;> rfl) (by (conv => lhs; whnf) <;> rfl)) (fun b12 hb12 => ?_)
  refine OW.q rfl rfl (yq_move rfl (by (conv => lhs; whnf) <;> rfl)) ?_
  apply OW.segOr 5 [14, 15, 16, 17] 18 hb12
  · intro hb12e
    refine QW.q (by subst hb12e; rfl) rfl (yq_move rfl (by (conv => lhs; whnf) <;> rfl)) ?_
    refine QW.q (by subst hb12e; rfl) rfl (yq_move rfl (by (conv => lhs; whnf) <;> rfl)) ?_
    refine QW.q (by subst hb12e; rfl) rfl (yq_len_slice rfl ts22 (by (conv => lhs; whnf) <;> rfl)) ?_
    refine QW.qb (by subst hb12e; rfl) rfl (yq_geq rfl (by (conv => lhs; whnf) <;> rfl) (by (conv => lhs; whnf) <;> rfl)) (fun b17 hb17 => ?_)
    refine QW.q rfl rfl (yq_pick rfl (by (conv => lhs; whnf) <;> rfl) (by subst hb12e; ((conv => lhs; whnf) <;> rfl))) ?_
    exact QW.nil (SegM.mk (any_c (any_c (any_c (any_c any_n)))) (or_run hb12 hb12e hb17))
  · intro hb12e
    refine QW.skip (by subst hb12e; rfl) rfl ?_
    refine QW.skip (by subst hb12e; rfl) rfl ?_
    refine QW.skip (by subst hb12e; rfl) rfl ?_
    refine QW.skip (by subst hb12e; rfl) rfl ?_
    refine QW.q rfl rfl (yq_pick rfl (by (conv => lhs; whnf) <;> rfl) (by subst hb12e; ((conv => lhs; whnf) <;> rfl))) ?_
    exact QW.nil (SegM.mk (any_c (any_c (any_c (any_c any_n)))) (or_skip hb12 hb12e))
  · intro ρ18 b18 hA hb18
    obtain ⟨x14, x15, x16, x17, rfl⟩ := hA
    refine OW.nil ?_
    refine hK3 _ _ ?_
    refine CW.condq (by (conv => lhs; whnf) <;> rfl) hb18 (fun hc0 => ?_) (fun hc0 => ?_)
    · refine CW.seq_k fun K4 hK4 => ?_
      refine CW.region ?_
      refine OW.q rfl rfl (yq_assign rfl (by (conv => lhs; whnf) <;> rfl)) ?_
      refine OW.q rfl rfl (yq_assign rfl (by (conv => lhs; whnf) <;> rfl)) ?_
      refine OW.nil ?_
      refine hK4 _ _ ?_
      refine CW.ret ?_
      refine then_ret ?_
      -- ret (ret)
      refine fin2 (Or.inr rfl) rfl ⟨by decide, (by (conv => lhs; whnf) <;> rfl)⟩ ⟨by decide, (by (conv => lhs; whnf) <;> rfl)⟩ (fun w hw => ?_)
      refine ⟨_, [.row none 0 0 25 32 []], rfl, nilrow_cl hw 25 32, ?_⟩
      rw [pathE_bad hc0, pathR_bad hc0]
      exact ⟨_, rfl, none, 0, rfl, rfl⟩
    · obtain ⟨k, rfl⟩ : ∃ k : Nat, i = (k : Int) := ⟨i.toNat, by omega⟩
      have hkl : k < l.length := by omega
      obtain ⟨b, off, cp, hv, hcp⟩ := hs.place (fun e => by subst e; simp at hkl)
      rw [Value.slice.injEq] at hv
      obtain ⟨rfl, _, rfl⟩ := hv
      refine CW.skip ?_
      refine hK2 _ _ ?_
      refine CW.seq_k fun K5 hK5 => ?_
      refine CW.seq_k fun K6 hK6 => ?_
      refine CW.region ?_
      refine OW.q rfl rfl (yq_move rfl (by (conv => lhs; whnf) <;> rfl)) ?_
      refine OW.q rfl rfl (yq_len_slice rfl ts22 (by (conv => lhs; whnf) <;> rfl)) ?_
      refine OW.q rfl rfl (yq_eql rfl (by (conv => lhs; whnf) <;> rfl) (by (conv => lhs; whnf) <;> rfl)) ?_
      refine OW.nil ?_
      refine hK6 _ _ ?_
      refine CW.cond_dec (by (conv => lhs; whnf) <;> rfl) (fun hc1 => ?_) (fun hc1 => ?_)
      · refine CW.seq_k fun K7 hK7 => ?_
        refine CW.region ?_
        refine OW.q rfl rfl (yq_assign rfl (by (conv => lhs; whnf) <;> rfl)) ?_
        refine OW.q rfl rfl (yq_assign rfl (by (conv => lhs; whnf) <;> rfl)) ?_
        refine OW.nil ?_
        refine hK7 _ _ ?_
        refine CW.ret ?_
        refine then_ret ?_
        -- ret (ret)
        refine fin2 (Or.inr rfl) rfl ⟨by decide, (by (conv => lhs; whnf) <;> rfl)⟩ ⟨by decide, (by (conv => lhs; whnf) <;> rfl)⟩ (fun w hw => ?_)
        refine ⟨_, [.row none 0 0 25 32 []], rfl, nilrow_cl hw 25 32, ?_⟩
        rw [pathE_ok hc0, pathR_ok hc0, pathL_small _ (by omega)]
        exact ⟨_, rfl, none, 0, rfl, rfl⟩
      · have hq2 : 2 ≤ l.length := by omega
        have hk1 := sp_pos hq2
        have hk2 := sp_lt hq2
        obtain ⟨q, hq⟩ : ∃ q, q = sp l.length := ⟨_, rfl⟩
        rw [← hq] at hk1 hk2
        have hsp : spI (l.length : Int) = (q : Int) := by rw [spI_nat, hq]
        have hT := sliceT hs q (by omega)
        have hD := sliceD hs q (by omega)
        have hlT : (l.take q).length = q := by rw [List.length_take]; omega
        have hlD : (l.drop q).length = l.length - q := by rw [List.length_drop]
        refine CW.skip ?_
        refine hK5 _ _ ?_
        refine CW.seq_k fun K8 hK8 => ?_
        refine CW.region ?_
        refine OW.q rfl rfl (yq_move rfl (by (conv => lhs; whnf) <;> rfl)) ?_
        refine OW.q rfl rfl (yq_len_slice rfl ts22 (by (conv => lhs; whnf) <;> rfl)) ?_
        refine OW.q rfl rfl (yq_call rfl rfl (.cons (by (conv => lhs; whnf) <;> rfl) .nil) en39 (fun w hw => rsplit_c _ _ w hsp (by omega) (by omega))) ?_
        refine OW.q rfl rfl (yq_assign rfl (by (conv => lhs; whnf) <;> rfl)) ?_
        refine OW.nil ?_
        refine hK8 _ _ ?_
        refine CW.seq_k fun K9 hK9 => ?_
        refine CW.seq_k fun K10 hK10 => ?_
        refine CW.region ?_
        refine OW.q rfl rfl (yq_move rfl (by (conv => lhs; whnf) <;> rfl)) ?_
        refine OW.q rfl rfl (yq_move rfl (by (conv => lhs; whnf) <;> rfl)) ?_
        refine OW.q rfl rfl (yq_lss rfl (by (conv => lhs; whnf) <;> rfl) (by (conv => lhs; whnf) <;> rfl)) ?_
        refine OW.nil ?_
        refine hK10 _ _ ?_
        refine CW.cond_dec (by (conv => lhs; whnf) <;> rfl) (fun hc2 => ?_) (fun hc2 => ?_)
        · have hlt : k < q := by omega
          have hpr : pathR (l.take q) (k : Int) = pathL (l.take q) k := pathR_ok (by rw [hlT]; omega)
          have hpn := pathR_length (l.take q) (k : Int)
          rw [hlT] at hpn
          refine CW.seq_k fun K11 hK11 => ?_
          refine CW.region ?_
          refine OW.q rfl rfl (yq_move rfl (by (conv => lhs; whnf) <;> rfl)) ?_
          refine OW.q rfl rfl (yq_move rfl (by (conv => lhs; whnf) <;> rfl)) ?_
          refine OW.q rfl rfl (yq_slice_slice (l := 0) (h := q) rfl (by (conv => lhs; whnf) <;> rfl) ts22 ti25 rfl ⟨_, _, (by (conv => lhs; whnf) <;> rfl), by omega, by omega⟩ (by omega) (by omega)) ?_
          refine OW.q rfl rfl (yq_move rfl (by (conv => lhs; whnf) <;> rfl)) ?_
          refine OW.calln rfl rfl rfl (by (conv => lhs; whnf) <;> rfl) (.cons (by (conv => lhs; whnf) <;> rfl) (.cons (by (conv => lhs; whnf) <;> rfl) .nil)) en42 (fun w hw => ih (l.take q) _ (k : Int) w (by omega) (by omega) (hT.mono hw) (by omega) (by omega)) ?_
          rintro _ _ ⟨_, rfl, a, cap, rfl, rfl⟩
          refine OW.q rfl rfl (yq_move rfl (by (conv => lhs; whnf) <;> rfl)) ?_
          refine OW.q rfl rfl (yq_extract rfl (by (conv => lhs; whnf) <;> rfl) rfl) ?_
          refine OW.q rfl rfl (yq_extract rfl (by (conv => lhs; whnf) <;> rfl) rfl) ?_
          refine OW.q rfl rfl (yq_assign rfl (by (conv => lhs; whnf) <;> rfl)) ?_
          refine OW.q rfl rfl (yq_assign rfl (by (conv => lhs; whnf) <;> rfl)) ?_
          refine OW.nil ?_
          refine hK11 _ _ ?_
          refine CW.seq_k fun K12 hK12 => ?_
          refine CW.region ?_
          refine OW.q rfl rfl (yq_move rfl (by (conv => lhs; whnf) <;> rfl)) ?_
          refine OW.q rfl rfl (yq_move rfl (by (conv => lhs; whnf) <;> rfl)) ?_
          refine OW.q rfl rfl (yq_move rfl (by (conv => lhs; whnf) <;> rfl)) ?_
          refine OW.q rfl rfl (yq_slice_slice (l := q) (h := l.length) rfl (by (conv => lhs; whnf) <;> rfl) ts22 ti25 ⟨_, _, (by (conv => lhs; whnf) <;> rfl), by omega, by omega⟩ rfl (by omega) (by omega)) ?_
          refine OW.q rfl rfl (yq_call rfl rfl (.cons (by (conv => lhs; whnf) <;> rfl) .nil) en25 (fun w hw => rroot_calls (l.drop q) _ w (by omega) (hD.mono hw))) ?_
          refine OW.slicelit (vs := [HV (rootL (l.drop q))]) rfl rfl rfl rfl ts22 ti25 tz25 (by decide) rfl (by decide) (by simp [HV_cells]) (by decide) (cs := hc (rootL (l.drop q))) (by simp [HV_cells]) (fun bl => ?_)
          refine OW.append (news := hc (rootL (l.drop q))) rfl rfl rfl (by (conv => lhs; whnf) <;> rfl) (by (conv => lhs; whnf) <;> rfl) ts22 ti25 tz25 (.tail .head) (blk_cells (List.mem_cons_self ..)) (by rw [hc_length]) (hc_one _) (hc_length _) (by decide) (by simp only [maxLen]; omega) (by omega) (fun a' cap' => ?_)
          refine OW.drop ((List.sublist_cons_self _ _).cons_cons _) ?_
          refine OW.q rfl rfl (yq_assign rfl (by (conv => lhs; whnf) <;> rfl)) ?_
          refine OW.q rfl rfl (yq_assign rfl (by (conv => lhs; whnf) <;> rfl)) ?_
          refine OW.nil ?_
          refine hK12 _ _ ?_
          refine CW.ret ?_
          refine then_ret ?_
          -- ret (ret)
          refine fin2 (Or.inr rfl) rfl ⟨by decide, (by (conv => lhs; whnf) <;> rfl)⟩ ⟨by decide, (by (conv => lhs; whnf) <;> rfl)⟩ (fun w hw => ?_)
          refine ⟨_, _, rfl, hw, ?_⟩
          rw [pathE_ok hc0, pathR_ok hc0, pathL_left hq2 (by rw [← hq]; exact hlt), ← hq]
          refine ⟨_, rfl, a', cap', ?_, ?_⟩
          · rw [List.length_append, hpr]; rfl
          · rw [flat_snoc, List.length_append, hpr]; rfl
        · have hlt : ¬ k < q := by omega
          have hiq : (k : Int) - (q : Int) = ((k - q : Nat) : Int) := by omega
          have hpr : pathR (l.drop q) ((k - q : Nat) : Int) = pathL (l.drop q) (k - q) := pathR_ok (by rw [hlD]; omega)
          have hpn := pathR_length (l.drop q) ((k - q : Nat) : Int)
          rw [hlD] at hpn
          refine CW.skip ?_
          refine hK9 _ _ ?_
          refine CW.seq_k fun K13 hK13 => ?_
          refine CW.region ?_
          refine OW.q rfl rfl (yq_move rfl (by (conv => lhs; whnf) <;> rfl)) ?_
          refine OW.q rfl rfl (yq_move rfl (by (conv => lhs; whnf) <;> rfl)) ?_
          refine OW.q rfl rfl (yq_slice_slice (l := q) (h := l.length) rfl (by (conv => lhs; whnf) <;> rfl) ts22 ti25 ⟨_, _, (by (conv => lhs; whnf) <;> rfl), by omega, by omega⟩ rfl (by omega) (by omega)) ?_
          refine OW.q rfl rfl (yq_move rfl (by (conv => lhs; whnf) <;> rfl)) ?_
          refine OW.q rfl rfl (yq_move rfl (by (conv => lhs; whnf) <;> rfl)) ?_
          refine OW.q rfl rfl (yq_sub_e (r := ((k - q : Nat) : Int)) rfl (by (conv => lhs; whnf) <;> rfl) (by (conv => lhs; whnf) <;> rfl) (by rw [hiq, wrap64_in (by omega)])) ?_
          refine OW.calln rfl rfl rfl (by (conv => lhs; whnf) <;> rfl) (.cons (by (conv => lhs; whnf) <;> rfl) (.cons (by (conv => lhs; whnf) <;> rfl) .nil)) en42 (fun w hw => ih (l.drop q) _ ((k - q : Nat) : Int) w (by omega) (by omega) (hD.mono hw) (by omega) (by omega)) ?_
          rintro _ _ ⟨_, rfl, a, cap, rfl, rfl⟩
          refine OW.q rfl rfl (yq_move rfl (by (conv => lhs; whnf) <;> rfl)) ?_
          refine OW.q rfl rfl (yq_extract rfl (by (conv => lhs; whnf) <;> rfl) rfl) ?_
          refine OW.q rfl rfl (yq_extract rfl (by (conv => lhs; whnf) <;> rfl) rfl) ?_
          refine OW.q rfl rfl (yq_assign rfl (by (conv => lhs; whnf) <;> rfl)) ?_
          refine OW.q rfl rfl (yq_assign rfl (by (conv => lhs; whnf) <;> rfl)) ?_
          refine OW.nil ?_
          refine hK13 _ _ ?_
          refine CW.seq_k fun K14 hK14 => ?_
          refine CW.region ?_
          refine OW.q rfl rfl (yq_move rfl (by (conv => lhs; whnf) <;> rfl)) ?_
          refine OW.q rfl rfl (yq_move rfl (by (conv => lhs; whnf) <;> rfl)) ?_
          refine OW.q rfl rfl (yq_move rfl (by (conv => lhs; whnf) <;> rfl)) ?_
          refine OW.q rfl rfl (yq_slice_slice (l := 0) (h := q) rfl (by (conv => lhs; whnf) <;> rfl) ts22 ti25 rfl ⟨_, _, (by (conv => lhs; whnf) <;> rfl), by omega, by omega⟩ (by omega) (by omega)) ?_
          refine OW.q rfl rfl (yq_call rfl rfl (.cons (by (conv => lhs; whnf) <;> rfl) .nil) en25 (fun w hw => rroot_calls (l.take q) _ w (by omega) (hT.mono hw))) ?_
          refine OW.slicelit (vs := [HV (rootL (l.take q))]) rfl rfl rfl rfl ts22 ti25 tz25 (by decide) rfl (by decide) (by simp [HV_cells]) (by decide) (cs := hc (rootL (l.take q))) (by simp [HV_cells]) (fun bl => ?_)
          refine OW.append (news := hc (rootL (l.take q))) rfl rfl rfl (by (conv => lhs; whnf) <;> rfl) (by (conv => lhs; whnf) <;> rfl) ts22 ti25 tz25 (.tail .head) (blk_cells (List.mem_cons_self ..)) (by rw [hc_length]) (hc_one _) (hc_length _) (by decide) (by simp only [maxLen]; omega) (by omega) (fun a' cap' => ?_)
          refine OW.drop ((List.sublist_cons_self _ _).cons_cons _) ?_
          refine OW.q rfl rfl (yq_assign rfl (by (conv => lhs; whnf) <;> rfl)) ?_
          refine OW.q rfl rfl (yq_assign rfl (by (conv => lhs; whnf) <;> rfl)) ?_
          refine OW.nil ?_
          refine hK14 _ _ ?_
          refine CW.ret ?_
          -- ret (ret)
          refine fin2 (Or.inr rfl) rfl ⟨by decide, (by (conv => lhs; whnf) <;> rfl)⟩ ⟨by decide, (by (conv => lhs; whnf) <;> rfl)⟩ (fun w hw => ?_)
          refine ⟨_, _, rfl, hw, ?_⟩
          rw [pathE_ok hc0, pathR_ok hc0, pathL_right hq2 (by rw [← hq]; exact hlt), ← hq]
          refine ⟨_, rfl, a', cap', ?_, ?_⟩
          · rw [List.length_append, hpr]; rfl
          · rw [flat_snoc, List.length_append, hpr]; rfl

theorem rpath_calls (l : List Hash) (v : Value) (i : Int) (w : World) (hll : l.length ≤ 4294967296) (hs : HsAt w v l) (hi1 : -9223372036854775808 ≤ i) (hi2 : i ≤ 9223372036854775807) :
    Calls Tryd.prog 42 #[v, .int .i64 i] w fun e w' => ∃ v' L1, e = .returned v' ∧ Cl w [] L1 w' ∧ ∃ u, v' = .tuple #[u, .int .i64 (pathE l i)] ∧ OutHs u L1 (pathR l i) := by
  have : ∀ m, RPathP m := by
    intro m
    induction m with
    | zero => intro l v i w h; omega
    | succ m ih => exact rpath_step m ih
  exact this (l.length + 1) l v i w (by omega) hll hs hi1 hi2
/-- What the document's climbing answers; the path from its end. -/
def comeF (leaf : Hash) : Nat → Nat → List Hash → Hash × Bool
  | _, n, [] => (leaf, decide (n = 1))
  | i, n, x :: r => if n = 1 then (leaf, false) else if i < sp n then (node (comeF leaf i (sp n) r).1 x, (comeF leaf i (sp n) r).2) else (node x (comeF leaf (i - sp n) (n - sp n) r).1, (comeF leaf (i - sp n) (n - sp n) r).2)
theorem comeF_nil (leaf : Hash) (i n : Nat) : comeF leaf i n [] = (leaf, decide (n = 1)) := by rw [comeF]
theorem comeF_one (leaf : Hash) (i : Nat) (x : Hash) (r : List Hash) : comeF leaf i 1 (x :: r) = (leaf, false) := by rw [comeF, if_pos rfl]
theorem comeF_left {leaf : Hash} {i n : Nat} {x : Hash} {r : List Hash} (h : n ≠ 1) (hi : i < sp n) : comeF leaf i n (x :: r) = (node (comeF leaf i (sp n) r).1 x, (comeF leaf i (sp n) r).2) := by rw [comeF, if_neg h, if_pos hi]
theorem comeF_right {leaf : Hash} {i n : Nat} {x : Hash} {r : List Hash} (h : n ≠ 1) (hi : ¬ i < sp n) : comeF leaf i n (x :: r) = (node x (comeF leaf (i - sp n) (n - sp n) r).1, (comeF leaf (i - sp n) (n - sp n) r).2) := by rw [comeF, if_neg h, if_neg hi]
theorem comeR_F (leaf : Hash) (p : List Hash) : ∀ i n, comeR leaf i n p = if (comeF leaf i n p).2 = true then some (comeF leaf i n p).1 else none := by
  induction p with
  | nil =>
    intro i n
    rw [comeF_nil, comeR]
    by_cases h : n = 1 <;> simp [h]
  | cons x r ih =>
    intro i n
    by_cases h : n = 1
    · subst h; rw [comeF_one, comeR]; simp
    · rw [comeR, if_neg h]
      by_cases hi : i < sp n
      · rw [comeF_left h hi, if_pos hi, ih]
        by_cases hb : (comeF leaf i (sp n) r).2 = true <;> simp [hb]
      · rw [comeF_right h hi, if_neg hi, ih]
        by_cases hb : (comeF leaf (i - sp n) (n - sp n) r).2 = true <;> simp [hb]
attribute [irreducible] comeF
def ComeP (m : Nat) : Prop := ∀ (leaf : Hash) (i n : Nat) (p : List Hash) (v : Value) (w : World), p.length < m → p.length ≤ 4294967296 → 1 ≤ n → n ≤ 4294967296 → i < n → HsAt w v p →
    Calls Tryd.prog 120 #[HV leaf, .int .i64 (i : Int), .int .i64 (n : Int), v] w fun e w' => e = .returned (.tuple #[HV (comeF leaf i n p.reverse).1, .bool (comeF leaf i n p.reverse).2]) ∧ Cl w [] [] w'

set_option maxRecDepth 100000 in
set_option maxHeartbeats 1000000 in
theorem come_step (m : Nat) (ih : ComeP m) : ComeP (m + 1) := by
  intro leaf i n p v w hpm hpl hn1 hnl hin hs
  have hs0 := hs
  obtain ⟨a0, cap0, rfl⟩ := hs0.len
  refine calls_of_CW (L := []) Tryd.func120 rfl (Nat.le_of_ble_eq_true rfl) (Cl.refl _) ?_
  refine CW.seq_k fun K1 hK1 => ?_
  refine CW.region ?_
  refine OW.box rfl rfl rfl (by (conv => lhs; whnf) <;> rfl) (by rfl) (fun b4 => ?_)
  refine OW.alloc rfl rfl rfl tz25 (fun b8 => ?_)
  refine OW.q rfl rfl (yq_assign rfl (by (conv => lhs; whnf) <;> rfl)) ?_
  refine OW.nil ?_
  refine hK1 _ _ ?_
  refine CW.seq_k fun K2 hK2 => ?_
  refine CW.seq_k fun K3 hK3 => ?_
  refine CW.region ?_
  refine OW.q rfl rfl (yq_move rfl (by (conv => lhs; whnf) <;> rfl)) ?_
  refine OW.q rfl rfl (yq_eql rfl (by (conv => lhs; whnf) <;> rfl) (by (conv => lhs; whnf) <;> rfl)) ?_
  refine OW.nil ?_
  refine hK3 _ _ ?_
  refine CW.cond_dec (by (conv => lhs; whnf) <;> rfl) (fun hc0 => ?_) (fun hc0 => ?_)
  · refine CW.seq_k fun K4 hK4 => ?_
    refine CW.region ?_
    refine OW.q rfl rfl (yq_loadH rfl (by (conv => lhs; whnf) <;> rfl) ti25 (by repeat' first | exact List.mem_cons_self .. | apply List.mem_cons_of_mem)) ?_
    refine OW.q rfl rfl (yq_move rfl (by (conv => lhs; whnf) <;> rfl)) ?_
    refine OW.q rfl rfl (yq_len_slice rfl ts22 (by (conv => lhs; whnf) <;> rfl)) ?_
    refine OW.q rfl rfl (yq_eql rfl (by (conv => lhs; whnf) <;> rfl) (by (conv => lhs; whnf) <;> rfl)) ?_
    refine OW.storeH rfl rfl rfl (by (conv => lhs; whnf) <;> rfl) (by (conv => lhs; whnf) <;> rfl) ti25 (by repeat' first | exact Put.head | apply Put.tail) (hc_length _) ?_
    refine OW.q rfl rfl (yq_assign rfl (by (conv => lhs; whnf) <;> rfl)) ?_
    refine OW.nil ?_
    refine hK4 _ _ ?_
    refine CW.ret ?_
    refine then_ret ?_
    -- ret (ret)
    have hn : n = 1 := by omega
    subst hn
    have hF : comeF leaf i 1 p.reverse = (leaf, decide ((p.length : Int) = 0)) := by
      cases hp : p.reverse with
      | nil =>
        have : p = [] := by simpa using hp
        subst this; rw [comeF_nil]; rfl
      | cons x r =>
        have : p.length ≠ 0 := by
          intro h0
          rw [List.eq_nil_of_length_eq_zero h0] at hp
          cases hp
        rw [comeF_one, decide_eq_false (by omega)]
    rw [hF]
    exact fin2 (Or.inr rfl) rfl (rv_hash (by decide) (by (conv => lhs; whnf) <;> rfl) ti25 (List.mem_cons_self ..)) ⟨by decide, (by (conv => lhs; whnf) <;> rfl)⟩ (fun w hw => ⟨rfl, hw.sub (by simp)⟩)
  · refine CW.skip ?_
    refine hK2 _ _ ?_
    refine CW.seq_k fun K5 hK5 => ?_
    refine CW.seq_k fun K6 hK6 => ?_
    refine CW.region ?_
    refine OW.q rfl rfl (yq_move rfl (by (conv => lhs; whnf) <;> rfl)) ?_
    refine OW.q rfl rfl (yq_len_slice rfl ts22 (by (conv => lhs; whnf) <;> rfl)) ?_
    refine OW.q rfl rfl (yq_eql rfl (by (conv => lhs; whnf) <;> rfl) (by (conv => lhs; whnf) <;> rfl)) ?_
    refine OW.nil ?_
    refine hK6 _ _ ?_
    refine CW.cond_dec (by (conv => lhs; whnf) <;> rfl) (fun hc1 => ?_) (fun hc1 => ?_)
    · refine CW.seq_k fun K7 hK7 => ?_
      refine CW.region ?_
      refine OW.q rfl rfl (yq_loadH rfl (by (conv => lhs; whnf) <;> rfl) ti25 (by repeat' first | exact List.mem_cons_self .. | apply List.mem_cons_of_mem)) ?_
      refine OW.storeH rfl rfl rfl (by (conv => lhs; whnf) <;> rfl) (by (conv => lhs; whnf) <;> rfl) ti25 (by repeat' first | exact Put.head | apply Put.tail) (hc_length _) ?_
      refine OW.q rfl rfl (yq_assign rfl (by (conv => lhs; whnf) <;> rfl)) ?_
      refine OW.nil ?_
      refine hK7 _ _ ?_
      refine CW.ret ?_
      refine then_ret ?_
      -- ret (ret)
      have hp0 : p = [] := List.eq_nil_of_length_eq_zero (by omega)
      subst hp0
      rw [List.reverse_nil, comeF_nil, decide_eq_false (show ¬ n = 1 by omega)]
      exact fin2 (Or.inr rfl) rfl (rv_hash (by decide) (by (conv => lhs; whnf) <;> rfl) ti25 (List.mem_cons_self ..)) ⟨by decide, (by (conv => lhs; whnf) <;> rfl)⟩ (fun w hw => ⟨rfl, hw.sub (by simp)⟩)
    · obtain ⟨r, x, rfl⟩ : ∃ r x, p = r ++ [x] := by
        rcases List.eq_nil_or_concat p with h | ⟨r, x, h⟩
        · subst h; exact absurd rfl hc1
        · exact ⟨r, x, by simpa using h⟩
      have hrv : (r ++ [x]).reverse = x :: r.reverse := by simp
      have hpl1 : (r ++ [x]).length = r.length + 1 := by simp
      obtain ⟨b, off, cp, hv, hcp⟩ := hs.place (by simp)
      rw [Value.slice.injEq] at hv
      obtain ⟨rfl, _, rfl⟩ := hv
      have hsr := sliceT hs r.length (by omega)
      rw [List.take_left' rfl] at hsr
      have hq2 : 2 ≤ n := by omega
      have hk1 := sp_pos hq2
      have hk2 := sp_lt hq2
      obtain ⟨q, hq⟩ : ∃ q, q = sp n := ⟨_, rfl⟩
      rw [← hq] at hk1 hk2
      have hsp : spI (n : Int) = (q : Int) := by rw [spI_nat, hq]
      have hl1 : ((r ++ [x]).length : Int) - 1 = (r.length : Int) := by omega
      refine CW.skip ?_
      refine hK5 _ _ ?_
      refine CW.cutR (fun ρ L => ∃ b4 b8 b11, Has ρ [(1, .int .i64 (i : Int)), (2, .int .i64 (n : Int)), (3, .slice (some ⟨b, off, none⟩) (r ++ [x]).length cap0), (4, .pointer (some ⟨b4, 0, none⟩)), (8, .pointer (some ⟨b8, 0, none⟩)), (10, .int .i64 (q : Int)), (11, .pointer (some ⟨b11, 0, none⟩))] ∧ L = [.blk b11 (hc x) 25 (0, 0), .blk b8 (hc zeroHash) 25 (0, 0), .blk b4 (hc leaf) 25 (0, 0)]) ?_ ?_
      · refine CW.heldL mixed ?_
        refine HW.take 0 rfl (by kernel_rfl) (by kernel_rfl) (by kernel_rfl) rfl rfl (by repeat' first | exact List.Sublist.refl _ | exact List.nil_sublist _ | apply List.Sublist.cons) (yv_of_yq rfl (yq_move rfl (by (conv => lhs; whnf) <;> rfl))) ?_
        refine HW.take 2 rfl (by kernel_rfl) (by kernel_rfl) (by kernel_rfl) rfl rfl (by repeat' first | exact List.Sublist.refl _ | exact List.nil_sublist _ | apply List.Sublist.cons) (yv_of_yq rfl (yq_move rfl (by (conv => lhs; whnf) <;> rfl))) ?_
        refine HW.take 3 rfl (by kernel_rfl) (by kernel_rfl) (by kernel_rfl) rfl rfl (by repeat' first | exact List.Sublist.refl _ | exact List.nil_sublist _ | apply List.Sublist.cons) (yv_of_yq rfl (yq_move rfl (by (conv => lhs; whnf) <;> rfl))) ?_
        refine HW.take 4 rfl (by kernel_rfl) (by kernel_rfl) (by kernel_rfl) rfl rfl (by repeat' first | exact List.Sublist.refl _ | exact List.nil_sublist _ | apply List.Sublist.cons) (yv_len_slice rfl ts22 (by (conv => lhs; whnf) <;> rfl)) ?_
        refine HW.take 5 rfl (by kernel_rfl) (by kernel_rfl) (by kernel_rfl) rfl rfl (by repeat' first | exact List.Sublist.refl _ | exact List.nil_sublist _ | apply List.Sublist.cons) (yv_of_yq rfl (yq_sub_e (r := (r.length : Int)) rfl (by (conv => lhs; whnf) <;> rfl) (by (conv => lhs; whnf) <;> rfl) (by rw [hl1, wrap64_in (by omega)]))) ?_
        refine HW.take 6 rfl (by kernel_rfl) (by kernel_rfl) (by kernel_rfl) rfl rfl (by repeat' first | exact List.Sublist.refl _ | exact List.nil_sublist _ | apply List.Sublist.cons) (yv_of_yq rfl (yq_index_slice rfl (by (conv => lhs; whnf) <;> rfl) (by (conv => lhs; whnf) <;> rfl) ts22 ti25 (by omega) (by omega))) ?_
        refine HW.take 7 rfl (by kernel_rfl) (by kernel_rfl) (by kernel_rfl) rfl rfl (by repeat' first | exact List.Sublist.refl _ | exact List.nil_sublist _ | apply List.Sublist.cons) (yv_of_yq rfl (yq_load_hs (i := r.length) (v := x) rfl (by (conv => lhs; whnf) <;> rfl) ti25 (fun w hw => hs.mono hw) (by simp))) ?_
        refine HW.two 1 8 (by kernel_rfl) rfl rfl ?_ ?_
        · refine OW.q rfl rfl (yq_call rfl rfl (.cons (by (conv => lhs; whnf) <;> rfl) .nil) en39 (fun w hw => rsplit_c _ _ w hsp (by omega) (by omega))) ?_
          refine OW.nil ⟨rfl, (by repeat' first | exact List.Sublist.refl _ | exact List.nil_sublist _ | apply List.Sublist.cons), ?_⟩
          refine HW.one 8 (by kernel_rfl) rfl ?_
          refine OW.alloc rfl rfl rfl tz25 (fun b11 => ?_)
          refine OW.nil ⟨rfl, (by repeat' first | exact List.Sublist.refl _ | exact List.nil_sublist _ | apply List.Sublist.cons), ?_⟩
          refine HW.take 9 rfl (by kernel_rfl) (by kernel_rfl) (by kernel_rfl) rfl rfl (by repeat' first | exact List.Sublist.refl _ | exact List.nil_sublist _ | apply List.Sublist.cons) (yv_of_yq rfl (yq_assign rfl (by (conv => lhs; whnf) <;> rfl))) ?_
          refine HW.one 10 (by kernel_rfl) rfl ?_
          refine OW.storeH rfl rfl rfl (by (conv => lhs; whnf) <;> rfl) (by (conv => lhs; whnf) <;> rfl) ti25 (by repeat' first | exact Put.head | apply Put.tail) (hc_length _) ?_
          refine OW.nil ⟨rfl, (by repeat' first | exact List.Sublist.refl _ | exact List.nil_sublist _ | apply List.Sublist.cons), ?_⟩
          refine HW.done (by kernel_rfl) ?_
          exact ⟨rfl, _, _, _, Has.mk ⟨(by (conv => lhs; whnf) <;> rfl), (by (conv => lhs; whnf) <;> rfl), (by (conv => lhs; whnf) <;> rfl), (by (conv => lhs; whnf) <;> rfl), (by (conv => lhs; whnf) <;> rfl), (by (conv => lhs; whnf) <;> rfl), (by (conv => lhs; whnf) <;> rfl), trivial⟩, rfl⟩
        · refine OW.alloc rfl rfl rfl tz25 (fun b11 => ?_)
          refine OW.nil ⟨rfl, (by repeat' first | exact List.Sublist.refl _ | exact List.nil_sublist _ | apply List.Sublist.cons), ?_⟩
          refine HW.one 1 (by kernel_rfl) rfl ?_
          refine OW.q rfl rfl (yq_call rfl rfl (.cons (by (conv => lhs; whnf) <;> rfl) .nil) en39 (fun w hw => rsplit_c _ _ w hsp (by omega) (by omega))) ?_
          refine OW.nil ⟨rfl, (by repeat' first | exact List.Sublist.refl _ | exact List.nil_sublist _ | apply List.Sublist.cons), ?_⟩
          refine HW.take 9 rfl (by kernel_rfl) (by kernel_rfl) (by kernel_rfl) rfl rfl (by repeat' first | exact List.Sublist.refl _ | exact List.nil_sublist _ | apply List.Sublist.cons) (yv_of_yq rfl (yq_assign rfl (by (conv => lhs; whnf) <;> rfl))) ?_
          refine HW.one 10 (by kernel_rfl) rfl ?_
          refine OW.storeH rfl rfl rfl (by (conv => lhs; whnf) <;> rfl) (by (conv => lhs; whnf) <;> rfl) ti25 (by repeat' first | exact Put.head | apply Put.tail) (hc_length _) ?_
          refine OW.nil ⟨rfl, (by repeat' first | exact List.Sublist.refl _ | exact List.nil_sublist _ | apply List.Sublist.cons), ?_⟩
          refine HW.done (by kernel_rfl) ?_
          exact ⟨rfl, _, _, _, Has.mk ⟨(by (conv => lhs; whnf) <;> rfl), (by (conv => lhs; whnf) <;> rfl), (by (conv => lhs; whnf) <;> rfl), (by (conv => lhs; whnf) <;> rfl), (by (conv => lhs; whnf) <;> rfl), (by (conv => lhs; whnf) <;> rfl), (by (conv => lhs; whnf) <;> rfl), trivial⟩, rfl⟩
      · rintro _ _ ⟨b4, b8, b11, ⟨ρ', rfl⟩, rfl⟩
        refine CW.seq_k fun K8 hK8 => ?_
        refine CW.region ?_
        refine OW.q rfl rfl (yq_move rfl (by (conv => lhs; whnf) <;> rfl)) ?_
        refine OW.q rfl rfl (yq_move rfl (by (conv => lhs; whnf) <;> rfl)) ?_
        refine OW.q rfl rfl (yq_len_slice rfl ts22 (by (conv => lhs; whnf) <;> rfl)) ?_
        refine OW.q rfl rfl (yq_sub_e (r := (r.length : Int)) rfl (by (conv => lhs; whnf) <;> rfl) (by (conv => lhs; whnf) <;> rfl) (by rw [hl1, wrap64_in (by omega)])) ?_
        refine OW.q rfl rfl (yq_slice_slice (l := 0) (h := r.length) rfl (by (conv => lhs; whnf) <;> rfl) ts22 ti25 rfl ⟨_, _, (by (conv => lhs; whnf) <;> rfl), by omega, by omega⟩ (by omega) (by omega)) ?_
        refine OW.q rfl rfl (yq_assign rfl (by (conv => lhs; whnf) <;> rfl)) ?_
        refine OW.nil ?_
        refine hK8 _ _ ?_
        refine CW.seq_k fun K9 hK9 => ?_
        refine CW.seq_k fun K10 hK10 => ?_
        refine CW.region ?_
        refine OW.q rfl rfl (yq_move rfl (by (conv => lhs; whnf) <;> rfl)) ?_
        refine OW.q rfl rfl (yq_move rfl (by (conv => lhs; whnf) <;> rfl)) ?_
        refine OW.q rfl rfl (yq_lss rfl (by (conv => lhs; whnf) <;> rfl) (by (conv => lhs; whnf) <;> rfl)) ?_
        refine OW.nil ?_
        refine hK10 _ _ ?_
        refine CW.cond_dec (by (conv => lhs; whnf) <;> rfl) (fun hc2 => ?_) (fun hc2 => ?_)
        · have hlt : i < q := by omega
          refine CW.seq_k fun K11 hK11 => ?_
          refine CW.region ?_
          refine OW.q rfl rfl (yq_loadH rfl (by (conv => lhs; whnf) <;> rfl) ti25 (by repeat' first | exact List.mem_cons_self .. | apply List.mem_cons_of_mem)) ?_
          refine OW.q rfl rfl (yq_move rfl (by (conv => lhs; whnf) <;> rfl)) ?_
          refine OW.q rfl rfl (yq_move rfl (by (conv => lhs; whnf) <;> rfl)) ?_
          refine OW.q rfl rfl (yq_move rfl (by (conv => lhs; whnf) <;> rfl)) ?_
          refine OW.q rfl rfl (yq_call rfl rfl (.cons (by (conv => lhs; whnf) <;> rfl) ( .cons (by (conv => lhs; whnf) <;> rfl) ( .cons (by (conv => lhs; whnf) <;> rfl) ( .cons (by (conv => lhs; whnf) <;> rfl) .nil)))) en120 (fun w hw => ih leaf i q r _ w (by omega) (by omega) (by omega) (by omega) hlt (hsr.mono hw))) ?_
          refine OW.q rfl rfl (yq_move rfl (by (conv => lhs; whnf) <;> rfl)) ?_
          refine OW.q rfl rfl (yq_extract rfl (by (conv => lhs; whnf) <;> rfl) rfl) ?_
          refine OW.q rfl rfl (yq_extract rfl (by (conv => lhs; whnf) <;> rfl) rfl) ?_
          refine OW.alloc rfl rfl rfl tz25 (fun b13 => ?_)
          refine OW.storeH rfl rfl rfl (by (conv => lhs; whnf) <;> rfl) (by (conv => lhs; whnf) <;> rfl) ti25 (by repeat' first | exact Put.head | apply Put.tail) (hc_length _) ?_
          refine OW.q rfl rfl (yq_assign rfl (by (conv => lhs; whnf) <;> rfl)) ?_
          refine OW.nil ?_
          refine hK11 _ _ ?_
          refine CW.seq_k fun K12 hK12 => ?_
          refine CW.region ?_
          refine OW.q rfl rfl (yq_loadH rfl (by (conv => lhs; whnf) <;> rfl) ti25 (by repeat' first | exact List.mem_cons_self .. | apply List.mem_cons_of_mem)) ?_
          refine OW.q rfl rfl (yq_loadH rfl (by (conv => lhs; whnf) <;> rfl) ti25 (by repeat' first | exact List.mem_cons_self .. | apply List.mem_cons_of_mem)) ?_
          refine OW.q rfl rfl (yq_call rfl rfl (.cons (by (conv => lhs; whnf) <;> rfl) ( .cons (by (conv => lhs; whnf) <;> rfl) .nil)) en38 (fun w hw => refnode_calls _ _ w)) ?_
          refine OW.q rfl rfl (yq_move rfl (by (conv => lhs; whnf) <;> rfl)) ?_
          refine OW.storeH rfl rfl rfl (by (conv => lhs; whnf) <;> rfl) (by (conv => lhs; whnf) <;> rfl) ti25 (by repeat' first | exact Put.head | apply Put.tail) (hc_length _) ?_
          refine OW.q rfl rfl (yq_assign rfl (by (conv => lhs; whnf) <;> rfl)) ?_
          refine OW.nil ?_
          refine hK12 _ _ ?_
          refine CW.ret ?_
          refine then_ret ?_
          -- ret (ret)
          rw [hrv, comeF_left (by omega) (by rw [← hq]; exact hlt), ← hq]
          exact fin2 (Or.inr rfl) rfl (rv_hash (by decide) (by (conv => lhs; whnf) <;> rfl) ti25 (List.mem_cons_of_mem _ (List.mem_cons_of_mem _ (List.mem_cons_self ..)))) ⟨by decide, (by (conv => lhs; whnf) <;> rfl)⟩ (fun w hw => ⟨rfl, hw.sub (by simp)⟩)
        · have hlt : ¬ i < q := by omega
          have hiq : (i : Int) - (q : Int) = ((i - q : Nat) : Int) := by omega
          have hnq : (n : Int) - (q : Int) = ((n - q : Nat) : Int) := by omega
          refine CW.skip ?_
          refine hK9 _ _ ?_
          refine CW.seq_k fun K13 hK13 => ?_
          refine CW.region ?_
          refine OW.q rfl rfl (yq_loadH rfl (by (conv => lhs; whnf) <;> rfl) ti25 (by repeat' first | exact List.mem_cons_self .. | apply List.mem_cons_of_mem)) ?_
          refine OW.q rfl rfl (yq_move rfl (by (conv => lhs; whnf) <;> rfl)) ?_
          refine OW.q rfl rfl (yq_move rfl (by (conv => lhs; whnf) <;> rfl)) ?_
          refine OW.q rfl rfl (yq_sub_e (r := ((i - q : Nat) : Int)) rfl (by (conv => lhs; whnf) <;> rfl) (by (conv => lhs; whnf) <;> rfl) (by rw [hiq, wrap64_in (by omega)])) ?_
          refine OW.q rfl rfl (yq_move rfl (by (conv => lhs; whnf) <;> rfl)) ?_
          refine OW.q rfl rfl (yq_move rfl (by (conv => lhs; whnf) <;> rfl)) ?_
          refine OW.q rfl rfl (yq_sub_e (r := ((n - q : Nat) : Int)) rfl (by (conv => lhs; whnf) <;> rfl) (by (conv => lhs; whnf) <;> rfl) (by rw [hnq, wrap64_in (by omega)])) ?_
          refine OW.q rfl rfl (yq_move rfl (by (conv => lhs; whnf) <;> rfl)) ?_
          refine OW.q rfl rfl (yq_call rfl rfl (.cons (by (conv => lhs; whnf) <;> rfl) ( .cons (by (conv => lhs; whnf) <;> rfl) ( .cons (by (conv => lhs; whnf) <;> rfl) ( .cons (by (conv => lhs; whnf) <;> rfl) .nil)))) en120 (fun w hw => ih leaf (i - q) (n - q) r _ w (by omega) (by omega) (by omega) (by omega) (by omega) (hsr.mono hw))) ?_
          refine OW.q rfl rfl (yq_move rfl (by (conv => lhs; whnf) <;> rfl)) ?_
          refine OW.q rfl rfl (yq_extract rfl (by (conv => lhs; whnf) <;> rfl) rfl) ?_
          refine OW.q rfl rfl (yq_extract rfl (by (conv => lhs; whnf) <;> rfl) rfl) ?_
          refine OW.alloc rfl rfl rfl tz25 (fun b15 => ?_)
          refine OW.storeH rfl rfl rfl (by (conv => lhs; whnf) <;> rfl) (by (conv => lhs; whnf) <;> rfl) ti25 (by repeat' first | exact Put.head | apply Put.tail) (hc_length _) ?_
          refine OW.q rfl rfl (yq_assign rfl (by (conv => lhs; whnf) <;> rfl)) ?_
          refine OW.nil ?_
          refine hK13 _ _ ?_
          refine CW.seq_k fun K14 hK14 => ?_
          refine CW.region ?_
          refine OW.q rfl rfl (yq_loadH rfl (by (conv => lhs; whnf) <;> rfl) ti25 (by repeat' first | exact List.mem_cons_self .. | apply List.mem_cons_of_mem)) ?_
          refine OW.q rfl rfl (yq_loadH rfl (by (conv => lhs; whnf) <;> rfl) ti25 (by repeat' first | exact List.mem_cons_self .. | apply List.mem_cons_of_mem)) ?_
          refine OW.q rfl rfl (yq_call rfl rfl (.cons (by (conv => lhs; whnf) <;> rfl) ( .cons (by (conv => lhs; whnf) <;> rfl) .nil)) en38 (fun w hw => refnode_calls _ _ w)) ?_
          refine OW.q rfl rfl (yq_move rfl (by (conv => lhs; whnf) <;> rfl)) ?_
          refine OW.storeH rfl rfl rfl (by (conv => lhs; whnf) <;> rfl) (by (conv => lhs; whnf) <;> rfl) ti25 (by repeat' first | exact Put.head | apply Put.tail) (hc_length _) ?_
          refine OW.q rfl rfl (yq_assign rfl (by (conv => lhs; whnf) <;> rfl)) ?_
          refine OW.nil ?_
          refine hK14 _ _ ?_
          refine CW.ret ?_
          -- ret (ret)
          rw [hrv, comeF_right (by omega) (by rw [← hq]; exact hlt), ← hq]
          exact fin2 (Or.inr rfl) rfl (rv_hash (by decide) (by (conv => lhs; whnf) <;> rfl) ti25 (List.mem_cons_of_mem _ (List.mem_cons_of_mem _ (List.mem_cons_self ..)))) ⟨by decide, (by (conv => lhs; whnf) <;> rfl)⟩ (fun w hw => ⟨rfl, hw.sub (by simp)⟩)

theorem come_calls (leaf : Hash) (i n : Nat) (p : List Hash) (v : Value) (w : World) (hpl : p.length ≤ 4294967296) (hn1 : 1 ≤ n) (hnl : n ≤ 4294967296) (hin : i < n) (hs : HsAt w v p) :
    Calls Tryd.prog 120 #[HV leaf, .int .i64 (i : Int), .int .i64 (n : Int), v] w fun e w' => e = .returned (.tuple #[HV (comeF leaf i n p.reverse).1, .bool (comeF leaf i n p.reverse).2]) ∧ Cl w [] [] w' := by
  have : ∀ m, ComeP m := by
    intro m
    induction m with
    | zero => intro leaf i n p v w h; omega
    | succ m ih => exact come_step m ih
  exact this (p.length + 1) leaf i n p v w (by omega) hpl hn1 hnl hin hs
/-- Whether a leaf is checked. -/
def checkL (leaf : Hash) (i n : Int) (p : List Hash) (root : Hash) : Int := if ((n < 1 ∨ 4096 < n) ∨ i < 0) ∨ n ≤ i then 2 else if comeR leaf i.toNat n.toNat p.reverse = some root then 0 else 80
theorem checkL_bad {leaf : Hash} {i n : Int} {p : List Hash} {root : Hash} (h : ((n < 1 ∨ 4096 < n) ∨ i < 0) ∨ n ≤ i) : checkL leaf i n p root = 2 := if_pos h
theorem checkL_in {leaf : Hash} {i n : Nat} {p : List Hash} {root : Hash} (h : ¬ ((((n : Int) < 1 ∨ 4096 < (n : Int)) ∨ (i : Int) < 0) ∨ (n : Int) ≤ (i : Int))) : checkL leaf i n p root = if comeR leaf i n p.reverse = some root then 0 else 80 := by
  unfold checkL
  rw [if_neg h]
  simp

set_option maxRecDepth 100000 in
set_option maxHeartbeats 1000000 in
theorem rcheck_calls (leaf root : Hash) (i n : Int) (p : List Hash) (v : Value) (w : World) (hpl : p.length ≤ 4294967296) (hs : HsAt w v p) :
    Calls Tryd.prog 50 #[HV leaf, .int .i64 i, .int .i64 n, v, HV root] w fun e w' => e = .returned (.int .i64 (checkL leaf i n p root)) ∧ Cl w [] [] w' := by
  refine calls_of_CW (L := []) Tryd.func50 rfl (Nat.le_of_ble_eq_true rfl) (Cl.refl _) ?_
  refine CW.seq_k fun K1 hK1 => ?_
  refine CW.region ?_
  refine OW.box rfl rfl rfl (by (conv => lhs; whnf) <;> rfl) (by rfl) (fun b5 => ?_)
  refine OW.box rfl rfl rfl (by (conv => lhs; whnf) <;> rfl) (by rfl) (fun b9 => ?_)
  refine OW.q rfl rfl (yq_assign rfl (by (conv => lhs; whnf) <;> rfl)) ?_
  refine OW.nil ?_
  refine hK1 _ _ ?_
  refine CW.seq_k fun K2 hK2 => ?_
  refine CW.seq_k fun K3 hK3 => ?_
  refine CW.region ?_
  refine OW.q rfl rfl (yq_move rfl (by (conv => lhs; whnf) <;> rfl)) ?_
  refine OW.qb rfl rfl (yq_lss rfl (by (conv => lhs; whnf) <;> rfl) (by (conv => lhs; whnf) <;> rfl)) (fun b14 hb14 => ?_)
  refine OW.q rfl rfl (yq_move rfl (by (conv => lhs; whnf) <;> rfl)) ?_
  apply OW.segOr 3 [16, 17] 18 hb14
  · intro hb14e
    refine QW.q (by subst hb14e; rfl) rfl (yq_move rfl (by (conv => lhs; whnf) <;> rfl)) ?_
    refine QW.qb (by subst hb14e; rfl) rfl (yq_gtr rfl (by (conv => lhs; whnf) <;> rfl) (by (conv => lhs; whnf) <;> rfl)) (fun b17 hb17 => ?_)
    refine QW.q rfl rfl (yq_pick rfl (by (conv => lhs; whnf) <;> rfl) (by subst hb14e; ((conv => lhs; whnf) <;> rfl))) ?_
    exact QW.nil (SegM.mk (any_c (any_c any_n)) (or_run hb14 hb14e hb17))
  · intro hb14e
    refine QW.skip (by subst hb14e; rfl) rfl ?_
    refine QW.skip (by subst hb14e; rfl) rfl ?_
    refine QW.q rfl rfl (yq_pick rfl (by (conv => lhs; whnf) <;> rfl) (by subst hb14e; ((conv => lhs; whnf) <;> rfl))) ?_
    exact QW.nil (SegM.mk (any_c (any_c any_n)) (or_skip hb14 hb14e))
  · intro ρ18 b18 hA hb18
    obtain ⟨x16, x17, rfl⟩ := hA
    refine OW.q rfl rfl (yq_move rfl (by (conv => lhs; whnf) <;> rfl)) ?_
    apply OW.segOr 3 [20, 21] 22 hb18
    · intro hb18e
      refine QW.q (by subst hb18e; rfl) rfl (yq_move rfl (by (conv => lhs; whnf) <;> rfl)) ?_
      refine QW.qb (by subst hb18e; rfl) rfl (yq_lss rfl (by (conv => lhs; whnf) <;> rfl) (by (conv => lhs; whnf) <;> rfl)) (fun b21 hb21 => ?_)
      refine QW.q rfl rfl (yq_pick rfl (by (conv => lhs; whnf) <;> rfl) (by subst hb18e; ((conv => lhs; whnf) <;> rfl))) ?_
      exact QW.nil (SegM.mk (any_c (any_c any_n)) (or_run hb18 hb18e hb21))
    · intro hb18e
      refine QW.skip (by subst hb18e; rfl) rfl ?_
      refine QW.skip (by subst hb18e; rfl) rfl ?_
      refine QW.q rfl rfl (yq_pick rfl (by (conv => lhs; whnf) <;> rfl) (by subst hb18e; ((conv => lhs; whnf) <;> rfl))) ?_
      exact QW.nil (SegM.mk (any_c (any_c any_n)) (or_skip hb18 hb18e))
    · intro ρ22 b22 hA hb22
      obtain ⟨x20, x21, rfl⟩ := hA
      refine OW.q rfl rfl (yq_move rfl (by (conv => lhs; whnf) <;> rfl)) ?_
      apply OW.segOr 4 [24, 25, 26] 27 hb22
      · intro hb22e
        refine QW.q (by subst hb22e; rfl) rfl (yq_move rfl (by (conv => lhs; whnf) <;> rfl)) ?_
        refine QW.q (by subst hb22e; rfl) rfl (yq_move rfl (by (conv => lhs; whnf) <;> rfl)) ?_
        refine QW.qb (by subst hb22e; rfl) rfl (yq_geq rfl (by (conv => lhs; whnf) <;> rfl) (by (conv => lhs; whnf) <;> rfl)) (fun b26 hb26 => ?_)
        refine QW.q rfl rfl (yq_pick rfl (by (conv => lhs; whnf) <;> rfl) (by subst hb22e; ((conv => lhs; whnf) <;> rfl))) ?_
        exact QW.nil (SegM.mk (any_c (any_c (any_c any_n))) (or_run hb22 hb22e hb26))
      · intro hb22e
        refine QW.skip (by subst hb22e; rfl) rfl ?_
        refine QW.skip (by subst hb22e; rfl) rfl ?_
        refine QW.skip (by subst hb22e; rfl) rfl ?_
        refine QW.q rfl rfl (yq_pick rfl (by (conv => lhs; whnf) <;> rfl) (by subst hb22e; ((conv => lhs; whnf) <;> rfl))) ?_
        exact QW.nil (SegM.mk (any_c (any_c (any_c any_n))) (or_skip hb22 hb22e))
      · intro ρ27 b27 hA hb27
        obtain ⟨x24, x25, x26, rfl⟩ := hA
        refine OW.nil ?_
        refine hK3 _ _ ?_
        refine CW.condq (by (conv => lhs; whnf) <;> rfl) hb27 (fun hc0 => ?_) (fun hc0 => ?_)
        · refine CW.seq_k fun K4 hK4 => ?_
          refine CW.region ?_
          refine OW.q rfl rfl (yq_assign rfl (by (conv => lhs; whnf) <;> rfl)) ?_
          refine OW.nil ?_
          refine hK4 _ _ ?_
          refine CW.ret ?_
          refine then_ret ?_
          -- ret (ret)
          rw [checkL_bad hc0]
          exact fin1 (Or.inr rfl) rfl ⟨by decide, (by (conv => lhs; whnf) <;> rfl)⟩ (fun w hw => ⟨rfl, hw.sub (by simp)⟩)
        · obtain ⟨k, rfl⟩ : ∃ k : Nat, i = (k : Int) := ⟨i.toNat, by omega⟩
          obtain ⟨m, rfl⟩ : ∃ m : Nat, n = (m : Int) := ⟨n.toNat, by omega⟩
          have hR := comeR_F leaf p.reverse k m
          obtain ⟨F, hF⟩ : ∃ F, F = comeF leaf k m p.reverse := ⟨_, rfl⟩
          rw [← hF] at hR
          refine CW.skip ?_
          refine hK2 _ _ ?_
          refine CW.seq_k fun K5 hK5 => ?_
          refine CW.region ?_
          refine OW.q rfl rfl (yq_loadH rfl (by (conv => lhs; whnf) <;> rfl) ti25 (by repeat' first | exact List.mem_cons_self .. | apply List.mem_cons_of_mem)) ?_
          refine OW.q rfl rfl (yq_move rfl (by (conv => lhs; whnf) <;> rfl)) ?_
          refine OW.q rfl rfl (yq_move rfl (by (conv => lhs; whnf) <;> rfl)) ?_
          refine OW.q rfl rfl (yq_move rfl (by (conv => lhs; whnf) <;> rfl)) ?_
          refine OW.q rfl rfl (yq_call rfl rfl (.cons (by (conv => lhs; whnf) <;> rfl) ( .cons (by (conv => lhs; whnf) <;> rfl) ( .cons (by (conv => lhs; whnf) <;> rfl) ( .cons (by (conv => lhs; whnf) <;> rfl) .nil)))) en120 (fun w hw => by have := come_calls leaf k m p _ w hpl (by omega) (by omega) (by omega) (hs.mono hw); rw [← hF] at this; exact this)) ?_
          refine OW.q rfl rfl (yq_move rfl (by (conv => lhs; whnf) <;> rfl)) ?_
          refine OW.q rfl rfl (yq_extract rfl (by (conv => lhs; whnf) <;> rfl) rfl) ?_
          refine OW.q rfl rfl (yq_extract rfl (by (conv => lhs; whnf) <;> rfl) rfl) ?_
          refine OW.alloc rfl rfl rfl tz25 (fun b11 => ?_)
          refine OW.storeH rfl rfl rfl (by (conv => lhs; whnf) <;> rfl) (by (conv => lhs; whnf) <;> rfl) ti25 (by repeat' first | exact Put.head | apply Put.tail) (hc_length _) ?_
          refine OW.q rfl rfl (yq_assign rfl (by (conv => lhs; whnf) <;> rfl)) ?_
          refine OW.nil ?_
          refine hK5 _ _ ?_
          refine CW.seq_k fun K6 hK6 => ?_
          refine CW.seq_k fun K7 hK7 => ?_
          refine CW.region ?_
          refine OW.q rfl rfl (yq_move rfl (by (conv => lhs; whnf) <;> rfl)) ?_
          refine OW.qn rfl rfl (yq_not rfl (by (conv => lhs; whnf) <;> rfl)) (Iff.refl _) (fun b37 hb37 => ?_)
          refine OW.q rfl rfl (yq_move rfl (by (conv => lhs; whnf) <;> rfl)) ?_
          apply OW.segOr 4 [39, 40, 41] 42 hb37
          · intro hb37e
            refine QW.q (by subst hb37e; rfl) rfl (yq_loadH rfl (by (conv => lhs; whnf) <;> rfl) ti25 (by repeat' first | exact List.mem_cons_self .. | apply List.mem_cons_of_mem)) ?_
            refine QW.q (by subst hb37e; rfl) rfl (yq_loadH rfl (by (conv => lhs; whnf) <;> rfl) ti25 (by repeat' first | exact List.mem_cons_self .. | apply List.mem_cons_of_mem)) ?_
            refine QW.qb (by subst hb37e; rfl) rfl (yq_neq_H rfl (by (conv => lhs; whnf) <;> rfl) (by (conv => lhs; whnf) <;> rfl) ta25 Tryd.underlying5 ti5 eg25) (fun b41 hb41 => ?_)
            refine QW.q rfl rfl (yq_pick rfl (by (conv => lhs; whnf) <;> rfl) (by subst hb37e; ((conv => lhs; whnf) <;> rfl))) ?_
            exact QW.nil (SegM.mk (any_c (any_c (any_c any_n))) (or_run hb37 hb37e hb41))
          · intro hb37e
            refine QW.skip (by subst hb37e; rfl) rfl ?_
            refine QW.skip (by subst hb37e; rfl) rfl ?_
            refine QW.skip (by subst hb37e; rfl) rfl ?_
            refine QW.q rfl rfl (yq_pick rfl (by (conv => lhs; whnf) <;> rfl) (by subst hb37e; ((conv => lhs; whnf) <;> rfl))) ?_
            exact QW.nil (SegM.mk (any_c (any_c (any_c any_n))) (or_skip hb37 hb37e))
          · intro ρ42 b42 hA hb42
            obtain ⟨x39, x40, x41, rfl⟩ := hA
            refine OW.nil ?_
            refine hK7 _ _ ?_
            refine CW.condq (by (conv => lhs; whnf) <;> rfl) hb42 (fun hc1 => ?_) (fun hc1 => ?_)
            · refine CW.seq_k fun K8 hK8 => ?_
              refine CW.region ?_
              refine OW.q rfl rfl (yq_assign rfl (by (conv => lhs; whnf) <;> rfl)) ?_
              refine OW.nil ?_
              refine hK8 _ _ ?_
              refine CW.ret ?_
              refine then_ret ?_
              -- ret (ret)
              rw [checkL_in hc0, hR, if_neg (by
                rcases hc1 with h | h
                · rw [if_neg h]; simp
                · split
                  · simpa using h
                  · simp)]
              exact fin1 (Or.inr rfl) rfl ⟨by decide, (by (conv => lhs; whnf) <;> rfl)⟩ (fun w hw => ⟨rfl, hw.sub (by simp)⟩)
            · refine CW.skip ?_
              refine hK6 _ _ ?_
              refine CW.seq_k fun K9 hK9 => ?_
              refine CW.region ?_
              refine OW.q rfl rfl (yq_assign rfl (by (conv => lhs; whnf) <;> rfl)) ?_
              refine OW.nil ?_
              refine hK9 _ _ ?_
              refine CW.ret ?_
              -- ret (ret)
              rw [checkL_in hc0, hR, if_pos (by
                have h1 : F.2 = true := Decidable.byContradiction fun h => hc1 (.inl h)
                have h2 : F.1 = root := Decidable.byContradiction fun h => hc1 (.inr h)
                rw [if_pos h1, h2])]
              exact fin1 (Or.inr rfl) rfl ⟨by decide, (by (conv => lhs; whnf) <;> rfl)⟩ (fun w hw => ⟨rfl, hw.sub (by simp)⟩)

end Go.Proofs.YtahdekllphehkaaDoor

namespace Go.Proofs.YtahdekllphehkaaDoor
open Go.WL Go.Spec

theorem drop_getD {l : List Hash} {j : Nat} (h : j < l.length) : l.drop j = l.getD j zeroHash :: l.drop (j + 1) := by
  rw [List.drop_eq_getElem_cons h, List.getD_eq_getElem?_getD, List.getElem?_eq_getElem h]; rfl
theorem chk_fin {lf : Hash} {i la j : Nat} {p : List Hash} (hj : j ≤ p.length) (h : la = 0 ∨ j = p.length) : chk lf i la (p.drop j) = if la = 0 ∧ j = p.length then some lf else none := by
  rcases Nat.lt_or_ge j p.length with h1 | h1
  · rw [drop_getD h1, if_neg (by omega)]
    have : la = 0 := by omega
    subst this
    exact chk_done ..
  · rw [List.drop_eq_nil_of_le h1, chk_nil]
    by_cases hl : la = 0
    · rw [if_pos hl, if_pos ⟨hl, by omega⟩]
    · rw [if_neg hl, if_neg (fun h => hl h.1)]

set_option maxRecDepth 100000 in
set_option maxHeartbeats 1000000 in
theorem check_calls (leaf root : Hash) (i n : Int) (p : List Hash) (v : Value) (w : World) (hpl : p.length ≤ 4294967296) (hs : HsAt w v p) (hg : GL w) :
    Calls Tryd.prog 49 #[HV leaf, .int .i64 i, .int .i64 n, v, HV root] w fun e w' => e = .returned (.int .i64 (checkL leaf i n p root)) ∧ Cl w [] [] w' := by
  have hs0 := hs
  obtain ⟨a0, cap0, rfl⟩ := hs0.len
  refine calls_of_CW (L := []) Tryd.func49 rfl (Nat.le_of_ble_eq_true rfl) (Cl.refl _) ?_
  refine CW.seq_k fun K1 hK1 => ?_
  refine CW.region ?_
  refine OW.box rfl rfl rfl (by (conv => lhs; whnf) <;> rfl) (by rfl) (fun b5 => ?_)
  refine OW.box rfl rfl rfl (by (conv => lhs; whnf) <;> rfl) (by rfl) (fun b9 => ?_)
  refine OW.q rfl rfl (yq_assign rfl (by (conv => lhs; whnf) <;> rfl)) ?_
  refine OW.nil ?_
  refine hK1 _ _ ?_
  refine CW.scope ?_
  refine CW.seq_k fun K2 hK2 => ?_
  refine CW.seq_k fun K3 hK3 => ?_
  refine CW.region ?_
  refine OW.q rfl rfl (yq_move rfl (by (conv => lhs; whnf) <;> rfl)) ?_
  refine OW.qb rfl rfl (yq_lss rfl (by (conv => lhs; whnf) <;> rfl) (by (conv => lhs; whnf) <;> rfl)) (fun b16 hb16 => ?_)
  refine OW.q rfl rfl (yq_move rfl (by (conv => lhs; whnf) <;> rfl)) ?_
  apply OW.segOr 3 [18, 19] 20 hb16
  · intro hb16e
    refine QW.q (by subst hb16e; rfl) rfl (yq_move rfl (by (conv => lhs; whnf) <;> rfl)) ?_
    refine QW.qb (by subst hb16e; rfl) rfl (yq_gtr rfl (by (conv => lhs; whnf) <;> rfl) (by (conv => lhs; whnf) <;> rfl)) (fun b19 hb19 => ?_)
    refine QW.q rfl rfl (yq_pick rfl (by (conv => lhs; whnf) <;> rfl) (by subst hb16e; ((conv => lhs; whnf) <;> rfl))) ?_
    exact QW.nil (SegM.mk (any_c (any_c any_n)) (or_run hb16 hb16e hb19))
  · intro hb16e
    refine QW.skip (by subst hb16e; rfl) rfl ?_
    refine QW.skip (by subst hb16e; rfl) rfl ?_
    refine QW.q rfl rfl (yq_pick rfl (by (conv => lhs; whnf) <;> rfl) (by subst hb16e; ((conv => lhs; whnf) <;> rfl))) ?_
    exact QW.nil (SegM.mk (any_c (any_c any_n)) (or_skip hb16 hb16e))
  · intro ρ20 b20 hA hb20
    obtain ⟨x18, x19, rfl⟩ := hA
    refine OW.q rfl rfl (yq_move rfl (by (conv => lhs; whnf) <;> rfl)) ?_
    apply OW.segOr 3 [22, 23] 24 hb20
    · intro hb20e
      refine QW.q (by subst hb20e; rfl) rfl (yq_move rfl (by (conv => lhs; whnf) <;> rfl)) ?_
      refine QW.qb (by subst hb20e; rfl) rfl (yq_lss rfl (by (conv => lhs; whnf) <;> rfl) (by (conv => lhs; whnf) <;> rfl)) (fun b23 hb23 => ?_)
      refine QW.q rfl rfl (yq_pick rfl (by (conv => lhs; whnf) <;> rfl) (by subst hb20e; ((conv => lhs; whnf) <;> rfl))) ?_
      exact QW.nil (SegM.mk (any_c (any_c any_n)) (or_run hb20 hb20e hb23))
    · intro hb20e
      refine QW.skip (by subst hb20e; rfl) rfl ?_
      refine QW.skip (by subst hb20e; rfl) rfl ?_
      refine QW.q rfl rfl (yq_pick rfl (by (conv => lhs; whnf) <;> rfl) (by subst hb20e; ((conv => lhs; whnf) <;> rfl))) ?_
      exact QW.nil (SegM.mk (any_c (any_c any_n)) (or_skip hb20 hb20e))
    · intro ρ24 b24 hA hb24
      obtain ⟨x22, x23, rfl⟩ := hA
      refine OW.q rfl rfl (yq_move rfl (by (conv => lhs; whnf) <;> rfl)) ?_
      apply OW.segOr 4 [26, 27, 28] 29 hb24
      · intro hb24e
        refine QW.q (by subst hb24e; rfl) rfl (yq_move rfl (by (conv => lhs; whnf) <;> rfl)) ?_
        refine QW.q (by subst hb24e; rfl) rfl (yq_move rfl (by (conv => lhs; whnf) <;> rfl)) ?_
        refine QW.qb (by subst hb24e; rfl) rfl (yq_geq rfl (by (conv => lhs; whnf) <;> rfl) (by (conv => lhs; whnf) <;> rfl)) (fun b28 hb28 => ?_)
        refine QW.q rfl rfl (yq_pick rfl (by (conv => lhs; whnf) <;> rfl) (by subst hb24e; ((conv => lhs; whnf) <;> rfl))) ?_
        exact QW.nil (SegM.mk (any_c (any_c (any_c any_n))) (or_run hb24 hb24e hb28))
      · intro hb24e
        refine QW.skip (by subst hb24e; rfl) rfl ?_
        refine QW.skip (by subst hb24e; rfl) rfl ?_
        refine QW.skip (by subst hb24e; rfl) rfl ?_
        refine QW.q rfl rfl (yq_pick rfl (by (conv => lhs; whnf) <;> rfl) (by subst hb24e; ((conv => lhs; whnf) <;> rfl))) ?_
        exact QW.nil (SegM.mk (any_c (any_c (any_c any_n))) (or_skip hb24 hb24e))
      · intro ρ29 b29 hA hb29
        obtain ⟨x26, x27, x28, rfl⟩ := hA
        refine OW.nil ?_
        refine hK3 _ _ ?_
        refine CW.condq (by (conv => lhs; whnf) <;> rfl) hb29 (fun hc0 => ?_) (fun hc0 => ?_)
        · refine CW.seq_k fun K4 hK4 => ?_
          refine CW.region ?_
          refine OW.q rfl rfl (yq_assign rfl (by (conv => lhs; whnf) <;> rfl)) ?_
          refine OW.nil ?_
          refine hK4 _ _ ?_
          refine CW.ret ?_
          refine then_ret ?_
          refine noGoto_ret ?_
          -- ret (ret)
          rw [checkL_bad hc0]
          exact fin1 (Or.inr rfl) rfl ⟨by decide, (by (conv => lhs; whnf) <;> rfl)⟩ (fun w hw => ⟨rfl, hw.sub (List.nil_sublist _)⟩)
        · obtain ⟨k, rfl⟩ : ∃ k : Nat, i = (k : Int) := ⟨i.toNat, by omega⟩
          obtain ⟨m, rfl⟩ : ∃ m : Nat, n = (m : Int) := ⟨n.toNat, by omega⟩
          have hcome : chk leaf k (m - 1) p = comeR leaf k m p.reverse := by have := chk_come m leaf k p.reverse (by omega) (by omega); rwa [List.reverse_reverse] at this
          refine CW.skip ?_
          refine hK2 _ _ ?_
          refine CW.seq_k fun K5 hK5 => ?_
          refine CW.region ?_
          refine OW.q rfl rfl (yq_move rfl (by (conv => lhs; whnf) <;> rfl)) ?_
          refine OW.q rfl rfl (yq_sub_e (r := ((m - 1 : Nat) : Int)) rfl (by (conv => lhs; whnf) <;> rfl) (by (conv => lhs; whnf) <;> rfl) (by rw [wrap64_in (by omega)]; omega)) ?_
          refine OW.q rfl rfl (yq_assign rfl (by (conv => lhs; whnf) <;> rfl)) ?_
          refine OW.nil ?_
          refine hK5 _ _ ?_
          refine CW.seq_k fun K6 hK6 => ?_
          refine CW.region ?_
          refine OW.q rfl rfl (yq_assign rfl (by (conv => lhs; whnf) <;> rfl)) ?_
          refine OW.nil ?_
          refine hK6 _ _ ?_
          refine CW.seq_k fun K7 hK7 => ?_
          refine CW.label ?_
          refine hK7 _ _ ?_
          refine CW.seq_k fun K8 hK8 => ?_
          refine CW.seq_k fun K9 hK9 => ?_
          refine CW.region ?_
          refine OW.q rfl rfl (yq_move rfl (by (conv => lhs; whnf) <;> rfl)) ?_
          refine OW.q rfl rfl (yq_len_slice rfl ts22 (by (conv => lhs; whnf) <;> rfl)) ?_
          refine OW.q rfl rfl (yq_move rfl (by (conv => lhs; whnf) <;> rfl)) ?_
          refine OW.nil ?_
          refine hK9 _ _ ?_
          refine CW.block ?_
          refine CW.loop (σ := Hash × Nat × Nat × Nat) (fun q ρ L => match q with | (lf, i, la, j) => Has ρ [(1, .int .i64 (i : Int)), (11, .int .i64 (la : Int)), (3, .slice a0 p.length cap0), (5, .pointer (some ⟨b5, 0, none⟩)), (9, .pointer (some ⟨b9, 0, none⟩)), (12, .int .i64 (j : Int)), (32, .slice a0 p.length cap0), (33, .int .i64 (p.length : Int)), (34, .int .i64 (j : Int))] ∧ j ≤ p.length ∧ i ≤ la ∧ la ≤ 4096 ∧ chk leaf k (m - 1) p = chk lf i la (p.drop j) ∧ L = [.blk b9 (hc root) 25 (0, 0), .blk b5 (hc lf) 25 (0, 0)]) (fun q => p.length - q.2.2.2) ((leaf, k, m - 1, 0)) ?_ ?_
          · exact ⟨Has.mk ⟨(by (conv => lhs; whnf) <;> rfl), (by (conv => lhs; whnf) <;> rfl), (by (conv => lhs; whnf) <;> rfl), (by (conv => lhs; whnf) <;> rfl), (by (conv => lhs; whnf) <;> rfl), (by (conv => lhs; whnf) <;> rfl), (by (conv => lhs; whnf) <;> rfl), (by (conv => lhs; whnf) <;> rfl), (by (conv => lhs; whnf) <;> rfl), trivial⟩, Nat.zero_le _, by omega, by omega, rfl, rfl⟩
          · rintro ⟨lf, i, la, j⟩ _ _ ⟨⟨ρ', rfl⟩, hj, hila, hla, hch, rfl⟩
            refine CW.seq_k fun K10 hK10 => ?_
            refine CW.region ?_
            refine OW.q rfl rfl (yq_lss rfl (by (conv => lhs; whnf) <;> rfl) (by (conv => lhs; whnf) <;> rfl)) ?_
            refine OW.nil ?_
            refine hK10 _ _ ?_
            refine CW.seq_k fun K11 hK11 => ?_
            refine CW.cond_dec (by (conv => lhs; whnf) <;> rfl) (fun hc2 => ?_) (fun hc2 => ?_)
            · have hlt : j < p.length := by omega
              obtain ⟨x, hx⟩ : ∃ x, x = p.getD j zeroHash := ⟨_, rfl⟩
              have hd : p.drop j = x :: p.drop (j + 1) := by rw [hx]; exact drop_getD hlt
              obtain ⟨b, off, cp, hv, hcp⟩ := hs.place (fun e => by subst e; simp at hlt)
              rw [Value.slice.injEq] at hv
              obtain ⟨rfl, _, rfl⟩ := hv
              refine CW.skip ?_
              refine hK11 _ _ ?_
              refine CW.seq_k fun K12 hK12 => ?_
              refine CW.block ?_
              refine CW.seq_k fun K13 hK13 => ?_
              refine CW.region ?_
              refine OW.q rfl rfl (yq_index_slice rfl (by (conv => lhs; whnf) <;> rfl) (by (conv => lhs; whnf) <;> rfl) ts22 ti25 (by omega) (by omega)) ?_
              refine OW.q rfl rfl (yq_load_hs (i := j) (v := x) rfl (by (conv => lhs; whnf) <;> rfl) ti25 (fun w hw => hs.mono hw) (by rw [hx]; exact at_of_lt hlt)) ?_
              refine OW.alloc rfl rfl rfl tz25 (fun b14 => ?_)
              refine OW.storeH rfl rfl rfl (by (conv => lhs; whnf) <;> rfl) (by (conv => lhs; whnf) <;> rfl) ti25 (by repeat' first | exact Put.head | apply Put.tail) (hc_length _) ?_
              refine OW.nil ?_
              refine hK13 _ _ ?_
              refine CW.seq_k fun K14 hK14 => ?_
              refine CW.seq_k fun K15 hK15 => ?_
              refine CW.region ?_
              refine OW.q rfl rfl (yq_move rfl (by (conv => lhs; whnf) <;> rfl)) ?_
              refine OW.q rfl rfl (yq_eql rfl (by (conv => lhs; whnf) <;> rfl) (by (conv => lhs; whnf) <;> rfl)) ?_
              refine OW.nil ?_
              refine hK15 _ _ ?_
              refine CW.cond_dec (by (conv => lhs; whnf) <;> rfl) (fun hc4 => ?_) (fun hc4 => ?_)
              · have hfin : la = 0 ∨ j = p.length := .inl (by omega)
                refine CW.exit ?_
                refine then_exit ?_
                refine blockQ_miss rfl ?_
                refine then_exit ?_
                refine then_exit ?_
                refine blockQ_hit ?_
                refine hK8 _ _ ?_
                refine CW.seq_k fun K16 hK16 => ?_
                refine CW.seq_k fun K17 hK17 => ?_
                refine CW.region ?_
                refine OW.q rfl rfl (yq_move rfl (by (conv => lhs; whnf) <;> rfl)) ?_
                refine OW.qb rfl rfl (yq_neq rfl (by (conv => lhs; whnf) <;> rfl) (by (conv => lhs; whnf) <;> rfl)) (fun b73 hb73 => ?_)
                refine OW.q rfl rfl (yq_move rfl (by (conv => lhs; whnf) <;> rfl)) ?_
                apply OW.segOr 5 [75, 76, 77, 78] 79 hb73
                · intro hb73e
                  refine QW.q (by subst hb73e; rfl) rfl (yq_move rfl (by (conv => lhs; whnf) <;> rfl)) ?_
                  refine QW.q (by subst hb73e; rfl) rfl (yq_move rfl (by (conv => lhs; whnf) <;> rfl)) ?_
                  refine QW.q (by subst hb73e; rfl) rfl (yq_len_slice rfl ts22 (by (conv => lhs; whnf) <;> rfl)) ?_
                  refine QW.qb (by subst hb73e; rfl) rfl (yq_neq rfl (by (conv => lhs; whnf) <;> rfl) (by (conv => lhs; whnf) <;> rfl)) (fun b78 hb78 => ?_)
                  refine QW.q rfl rfl (yq_pick rfl (by (conv => lhs; whnf) <;> rfl) (by subst hb73e; ((conv => lhs; whnf) <;> rfl))) ?_
                  exact QW.nil (SegM.mk (any_c (any_c (any_c (any_c any_n)))) (or_run hb73 hb73e hb78))
                · intro hb73e
                  refine QW.skip (by subst hb73e; rfl) rfl ?_
                  refine QW.skip (by subst hb73e; rfl) rfl ?_
                  refine QW.skip (by subst hb73e; rfl) rfl ?_
                  refine QW.skip (by subst hb73e; rfl) rfl ?_
                  refine QW.q rfl rfl (yq_pick rfl (by (conv => lhs; whnf) <;> rfl) (by subst hb73e; ((conv => lhs; whnf) <;> rfl))) ?_
                  exact QW.nil (SegM.mk (any_c (any_c (any_c (any_c any_n)))) (or_skip hb73 hb73e))
                · intro ρ79 b79 hA hb79
                  obtain ⟨x75, x76, x77, x78, rfl⟩ := hA
                  refine OW.q rfl rfl (yq_move rfl (by (conv => lhs; whnf) <;> rfl)) ?_
                  apply OW.segOr 4 [81, 82, 83] 84 hb79
                  · intro hb79e
                    refine QW.q (by subst hb79e; rfl) rfl (yq_loadH rfl (by (conv => lhs; whnf) <;> rfl) ti25 (by repeat' first | exact List.mem_cons_self .. | apply List.mem_cons_of_mem)) ?_
                    refine QW.q (by subst hb79e; rfl) rfl (yq_loadH rfl (by (conv => lhs; whnf) <;> rfl) ti25 (by repeat' first | exact List.mem_cons_self .. | apply List.mem_cons_of_mem)) ?_
                    refine QW.qb (by subst hb79e; rfl) rfl (yq_neq_H rfl (by (conv => lhs; whnf) <;> rfl) (by (conv => lhs; whnf) <;> rfl) ta25 Tryd.underlying5 ti5 eg25) (fun b83 hb83 => ?_)
                    refine QW.q rfl rfl (yq_pick rfl (by (conv => lhs; whnf) <;> rfl) (by subst hb79e; ((conv => lhs; whnf) <;> rfl))) ?_
                    exact QW.nil (SegM.mk (any_c (any_c (any_c any_n))) (or_run hb79 hb79e hb83))
                  · intro hb79e
                    refine QW.skip (by subst hb79e; rfl) rfl ?_
                    refine QW.skip (by subst hb79e; rfl) rfl ?_
                    refine QW.skip (by subst hb79e; rfl) rfl ?_
                    refine QW.q rfl rfl (yq_pick rfl (by (conv => lhs; whnf) <;> rfl) (by subst hb79e; ((conv => lhs; whnf) <;> rfl))) ?_
                    exact QW.nil (SegM.mk (any_c (any_c (any_c any_n))) (or_skip hb79 hb79e))
                  · intro ρ84 b84 hA hb84
                    obtain ⟨x81, x82, x83, rfl⟩ := hA
                    refine OW.nil ?_
                    refine hK17 _ _ ?_
                    refine CW.condq (by (conv => lhs; whnf) <;> rfl) hb84 (fun hc9 => ?_) (fun hc9 => ?_)
                    · refine CW.seq_k fun K18 hK18 => ?_
                      refine CW.region ?_
                      refine OW.q rfl rfl (yq_assign rfl (by (conv => lhs; whnf) <;> rfl)) ?_
                      refine OW.nil ?_
                      refine hK18 _ _ ?_
                      refine CW.ret ?_
                      refine then_ret ?_
                      refine noGoto_ret ?_
                      -- ret (ret)
                      rw [checkL_in hc0, ← hcome, hch, chk_fin hj hfin, if_neg (by
                        rcases hc9 with h | h
                        · rw [if_neg (by omega)]; simp
                        · split
                          · simpa using h
                          · simp)]
                      exact fin1 (Or.inr rfl) rfl ⟨by decide, (by (conv => lhs; whnf) <;> rfl)⟩ (fun w hw => ⟨rfl, hw.sub (List.nil_sublist _)⟩)
                    · refine CW.skip ?_
                      refine hK16 _ _ ?_
                      refine CW.seq_k fun K19 hK19 => ?_
                      refine CW.region ?_
                      refine OW.q rfl rfl (yq_assign rfl (by (conv => lhs; whnf) <;> rfl)) ?_
                      refine OW.nil ?_
                      refine hK19 _ _ ?_
                      refine CW.ret ?_
                      refine noGoto_ret ?_
                      -- ret (ret)
                      rw [checkL_in hc0, ← hcome, hch, chk_fin hj hfin, if_pos (by
                        have h1 : ¬ ((la : Int) ≠ 0 ∨ (j : Int) ≠ (p.length : Int)) := fun h => hc9 (.inl h)
                        have h2 : lf = root := Decidable.byContradiction fun h => hc9 (.inr h)
                        rw [if_pos (by omega), h2])]
                      exact fin1 (Or.inr rfl) rfl ⟨by decide, (by (conv => lhs; whnf) <;> rfl)⟩ (fun w hw => ⟨rfl, hw.sub (List.nil_sublist _)⟩)
              · refine CW.skip ?_
                refine hK14 _ _ ?_
                refine CW.seq_k fun K20 hK20 => ?_
                refine CW.seq_k fun K21 hK21 => ?_
                refine CW.region ?_
                refine OW.q rfl rfl (yq_move rfl (by (conv => lhs; whnf) <;> rfl)) ?_
                refine OW.q rfl rfl (yq_rem rfl (by (conv => lhs; whnf) <;> rfl) (by (conv => lhs; whnf) <;> rfl) (by omega)) ?_
                refine OW.qb rfl rfl (yq_eql rfl (by (conv => lhs; whnf) <;> rfl) (by (conv => lhs; whnf) <;> rfl)) (fun b42 hb42 => ?_)
                refine OW.q rfl rfl (yq_move rfl (by (conv => lhs; whnf) <;> rfl)) ?_
                apply OW.segOr 4 [44, 45, 46] 47 hb42
                · intro hb42e
                  refine QW.q (by subst hb42e; rfl) rfl (yq_move rfl (by (conv => lhs; whnf) <;> rfl)) ?_
                  refine QW.q (by subst hb42e; rfl) rfl (yq_move rfl (by (conv => lhs; whnf) <;> rfl)) ?_
                  refine QW.qb (by subst hb42e; rfl) rfl (yq_eql rfl (by (conv => lhs; whnf) <;> rfl) (by (conv => lhs; whnf) <;> rfl)) (fun b46 hb46 => ?_)
                  refine QW.q rfl rfl (yq_pick rfl (by (conv => lhs; whnf) <;> rfl) (by subst hb42e; ((conv => lhs; whnf) <;> rfl))) ?_
                  exact QW.nil (SegM.mk (any_c (any_c (any_c any_n))) (or_run hb42 hb42e hb46))
                · intro hb42e
                  refine QW.skip (by subst hb42e; rfl) rfl ?_
                  refine QW.skip (by subst hb42e; rfl) rfl ?_
                  refine QW.skip (by subst hb42e; rfl) rfl ?_
                  refine QW.q rfl rfl (yq_pick rfl (by (conv => lhs; whnf) <;> rfl) (by subst hb42e; ((conv => lhs; whnf) <;> rfl))) ?_
                  exact QW.nil (SegM.mk (any_c (any_c (any_c any_n))) (or_skip hb42 hb42e))
                · intro ρ47 b47 hA hb47
                  obtain ⟨x44, x45, x46, rfl⟩ := hA
                  refine OW.nil ?_
                  refine hK21 _ _ ?_
                  refine CW.condq (by (conv => lhs; whnf) <;> rfl) hb47 (fun hc5 => ?_) (fun hc5 => ?_)
                  · have hc5 : i % 2 = 1 ∨ i = la := by omega
                    refine CW.seq_k fun K22 hK22 => ?_
                    refine CW.region ?_
                    refine OW.q rfl rfl (yq_loadH rfl (by (conv => lhs; whnf) <;> rfl) ti25 (by repeat' first | exact List.mem_cons_self .. | apply List.mem_cons_of_mem)) ?_
                    refine OW.q rfl rfl (yq_loadH rfl (by (conv => lhs; whnf) <;> rfl) ti25 (by repeat' first | exact List.mem_cons_self .. | apply List.mem_cons_of_mem)) ?_
                    refine OW.q rfl rfl (yq_call rfl rfl (.cons (by (conv => lhs; whnf) <;> rfl) ( .cons (by (conv => lhs; whnf) <;> rfl) .nil)) en27 (fun w hw => node_calls _ _ w (Cl_gl0 hw hg))) ?_
                    refine OW.storeH rfl rfl rfl (by (conv => lhs; whnf) <;> rfl) (by (conv => lhs; whnf) <;> rfl) ti25 (by repeat' first | exact Put.head | apply Put.tail) (hc_length _) ?_
                    refine OW.nil ?_
                    refine hK22 _ _ ?_
                    refine CW.block ?_
                    refine CW.loop (σ := Nat × Nat) (fun q ρ L => match q with | (i1, la1) => Has ρ [(1, .int .i64 (i1 : Int)), (11, .int .i64 (la1 : Int)), (3, .slice (some ⟨b, off, none⟩) p.length cap0), (5, .pointer (some ⟨b5, 0, none⟩)), (9, .pointer (some ⟨b9, 0, none⟩)), (12, .int .i64 (j : Int)), (32, .slice (some ⟨b, off, none⟩) p.length cap0), (33, .int .i64 (p.length : Int)), (34, .int .i64 (j : Int))] ∧ strip i la = strip i1 la1 ∧ i1 ≤ la1 ∧ la1 ≤ la ∧ L = [.blk b14 (hc x) 25 (0, 0), .blk b9 (hc root) 25 (0, 0), .blk b5 (hc (node x lf)) 25 (0, 0)]) (fun q => q.1) ((i, la)) ?_ ?_
                    · exact ⟨Has.mk ⟨(by (conv => lhs; whnf) <;> rfl), (by (conv => lhs; whnf) <;> rfl), (by (conv => lhs; whnf) <;> rfl), (by (conv => lhs; whnf) <;> rfl), (by (conv => lhs; whnf) <;> rfl), (by (conv => lhs; whnf) <;> rfl), (by (conv => lhs; whnf) <;> rfl), (by (conv => lhs; whnf) <;> rfl), (by (conv => lhs; whnf) <;> rfl), trivial⟩, rfl, hila, Nat.le_refl _, rfl⟩
                    · rintro ⟨i2, la2⟩ _ _ ⟨⟨ρ', rfl⟩, hst, hil2, hla2, rfl⟩
                      refine CW.seq_k fun K23 hK23 => ?_
                      refine CW.seq_k fun K24 hK24 => ?_
                      refine CW.region ?_
                      refine OW.q rfl rfl (yq_move rfl (by (conv => lhs; whnf) <;> rfl)) ?_
                      refine OW.q rfl rfl (yq_rem rfl (by (conv => lhs; whnf) <;> rfl) (by (conv => lhs; whnf) <;> rfl) (by omega)) ?_
                      refine OW.qb rfl rfl (yq_eql rfl (by (conv => lhs; whnf) <;> rfl) (by (conv => lhs; whnf) <;> rfl)) (fun b53 hb53 => ?_)
                      refine OW.q rfl rfl (yq_move rfl (by (conv => lhs; whnf) <;> rfl)) ?_
                      apply OW.segAnd 3 [55, 56] 57 hb53
                      · intro hb53e
                        refine QW.q (by subst hb53e; rfl) rfl (yq_move rfl (by (conv => lhs; whnf) <;> rfl)) ?_
                        refine QW.qb (by subst hb53e; rfl) rfl (yq_gtr rfl (by (conv => lhs; whnf) <;> rfl) (by (conv => lhs; whnf) <;> rfl)) (fun b56 hb56 => ?_)
                        refine QW.q rfl rfl (yq_pick rfl (by (conv => lhs; whnf) <;> rfl) (by subst hb53e; ((conv => lhs; whnf) <;> rfl))) ?_
                        exact QW.nil (SegM.mk (any_c (any_c any_n)) (and_run hb53 hb53e hb56))
                      · intro hb53e
                        refine QW.skip (by subst hb53e; rfl) rfl ?_
                        refine QW.skip (by subst hb53e; rfl) rfl ?_
                        refine QW.q rfl rfl (yq_pick rfl (by (conv => lhs; whnf) <;> rfl) (by subst hb53e; ((conv => lhs; whnf) <;> rfl))) ?_
                        exact QW.nil (SegM.mk (any_c (any_c any_n)) (and_skip hb53 hb53e))
                      · intro ρ57 b57 hA hb57
                        obtain ⟨x55, x56, rfl⟩ := hA
                        refine OW.nil ?_
                        refine hK24 _ _ ?_
                        refine CW.condq (by (conv => lhs; whnf) <;> rfl) hb57 (fun hc7 => ?_) (fun hc7 => ?_)
                        · refine CW.skip ?_
                          refine hK23 _ _ ?_
                          refine CW.block ?_
                          refine CW.region ?_
                          refine OW.q rfl rfl (yq_move rfl (by (conv => lhs; whnf) <;> rfl)) ?_
                          refine OW.q rfl rfl (yq_quo rfl (by (conv => lhs; whnf) <;> rfl) (by (conv => lhs; whnf) <;> rfl) (by omega)) ?_
                          refine OW.q rfl rfl (yq_move rfl (by (conv => lhs; whnf) <;> rfl)) ?_
                          refine OW.q rfl rfl (yq_quo rfl (by (conv => lhs; whnf) <;> rfl) (by (conv => lhs; whnf) <;> rfl) (by omega)) ?_
                          refine OW.q rfl rfl (yq_assign rfl (by (conv => lhs; whnf) <;> rfl)) ?_
                          refine OW.q rfl rfl (yq_assign rfl (by (conv => lhs; whnf) <;> rfl)) ?_
                          refine OW.nil ?_
                          exact ⟨(i2 / 2, la2 / 2), ⟨Has.mk ⟨(by (conv => lhs; whnf) <;> rfl), (by (conv => lhs; whnf) <;> rfl), (by (conv => lhs; whnf) <;> rfl), (by (conv => lhs; whnf) <;> rfl), (by (conv => lhs; whnf) <;> rfl), (by (conv => lhs; whnf) <;> rfl), (by (conv => lhs; whnf) <;> rfl), (by (conv => lhs; whnf) <;> rfl), (by (conv => lhs; whnf) <;> rfl), trivial⟩, by rw [hst, strip_even (by omega) (by omega)], by omega, by omega, rfl⟩, by show i2 / 2 < i2; omega⟩
                        · have hst2 : strip i la = (i2, la2) := by rw [hst, strip_else (by omega)]
                          refine CW.exit ?_
                          refine then_exit ?_
                          refine then_exit ?_
                          refine blockQ_hit ?_
                          refine hK20 _ _ ?_
                          refine CW.seq_k fun K25 hK25 => ?_
                          refine CW.region ?_
                          refine OW.q rfl rfl (yq_move rfl (by (conv => lhs; whnf) <;> rfl)) ?_
                          refine OW.q rfl rfl (yq_quo rfl (by (conv => lhs; whnf) <;> rfl) (by (conv => lhs; whnf) <;> rfl) (by omega)) ?_
                          refine OW.q rfl rfl (yq_move rfl (by (conv => lhs; whnf) <;> rfl)) ?_
                          refine OW.q rfl rfl (yq_quo rfl (by (conv => lhs; whnf) <;> rfl) (by (conv => lhs; whnf) <;> rfl) (by omega)) ?_
                          refine OW.q rfl rfl (yq_assign rfl (by (conv => lhs; whnf) <;> rfl)) ?_
                          refine OW.q rfl rfl (yq_assign rfl (by (conv => lhs; whnf) <;> rfl)) ?_
                          refine OW.nil ?_
                          refine hK25 _ _ ?_
                          refine CW.region ?_
                          refine OW.drop (List.sublist_cons_self _ _) ?_
                          refine OW.q rfl rfl (yq_move rfl (by (conv => lhs; whnf) <;> rfl)) ?_
                          refine OW.q rfl rfl (yq_add rfl (by (conv => lhs; whnf) <;> rfl) (by (conv => lhs; whnf) <;> rfl) (by omega)) ?_
                          refine OW.q rfl rfl (yq_assign rfl (by (conv => lhs; whnf) <;> rfl)) ?_
                          refine OW.nil ?_
                          refine hK12 _ _ ?_
                          refine CW.region ?_
                          refine OW.q rfl rfl (yq_add rfl (by (conv => lhs; whnf) <;> rfl) (by (conv => lhs; whnf) <;> rfl) (by omega)) ?_
                          refine OW.q rfl rfl (yq_move rfl (by (conv => lhs; whnf) <;> rfl)) ?_
                          refine OW.nil ?_
                          exact ⟨(node x lf, i2 / 2, la2 / 2, j + 1), ⟨Has.mk ⟨(by (conv => lhs; whnf) <;> rfl), (by (conv => lhs; whnf) <;> rfl), (by (conv => lhs; whnf) <;> rfl), (by (conv => lhs; whnf) <;> rfl), (by (conv => lhs; whnf) <;> rfl), (by (conv => lhs; whnf) <;> rfl), (by (conv => lhs; whnf) <;> rfl), (by (conv => lhs; whnf) <;> rfl), (by (conv => lhs; whnf) <;> rfl), trivial⟩, by omega, by omega, by omega, by rw [hch, hd, chk_step hc5 (by omega), hst2], rfl⟩, by show p.length - (j + 1) < p.length - j; omega⟩
                  · have hc5 : ¬ (i % 2 = 1 ∨ i = la) := by omega
                    refine CW.region ?_
                    refine OW.q rfl rfl (yq_loadH rfl (by (conv => lhs; whnf) <;> rfl) ti25 (by repeat' first | exact List.mem_cons_self .. | apply List.mem_cons_of_mem)) ?_
                    refine OW.q rfl rfl (yq_loadH rfl (by (conv => lhs; whnf) <;> rfl) ti25 (by repeat' first | exact List.mem_cons_self .. | apply List.mem_cons_of_mem)) ?_
                    refine OW.q rfl rfl (yq_call rfl rfl (.cons (by (conv => lhs; whnf) <;> rfl) ( .cons (by (conv => lhs; whnf) <;> rfl) .nil)) en27 (fun w hw => node_calls _ _ w (Cl_gl0 hw hg))) ?_
                    refine OW.storeH rfl rfl rfl (by (conv => lhs; whnf) <;> rfl) (by (conv => lhs; whnf) <;> rfl) ti25 (by repeat' first | exact Put.head | apply Put.tail) (hc_length _) ?_
                    refine OW.nil ?_
                    refine hK20 _ _ ?_
                    refine CW.seq_k fun K26 hK26 => ?_
                    refine CW.region ?_
                    refine OW.q rfl rfl (yq_move rfl (by (conv => lhs; whnf) <;> rfl)) ?_
                    refine OW.q rfl rfl (yq_quo rfl (by (conv => lhs; whnf) <;> rfl) (by (conv => lhs; whnf) <;> rfl) (by omega)) ?_
                    refine OW.q rfl rfl (yq_move rfl (by (conv => lhs; whnf) <;> rfl)) ?_
                    refine OW.q rfl rfl (yq_quo rfl (by (conv => lhs; whnf) <;> rfl) (by (conv => lhs; whnf) <;> rfl) (by omega)) ?_
                    refine OW.q rfl rfl (yq_assign rfl (by (conv => lhs; whnf) <;> rfl)) ?_
                    refine OW.q rfl rfl (yq_assign rfl (by (conv => lhs; whnf) <;> rfl)) ?_
                    refine OW.nil ?_
                    refine hK26 _ _ ?_
                    refine CW.region ?_
                    refine OW.drop (List.sublist_cons_self _ _) ?_
                    refine OW.q rfl rfl (yq_move rfl (by (conv => lhs; whnf) <;> rfl)) ?_
                    refine OW.q rfl rfl (yq_add rfl (by (conv => lhs; whnf) <;> rfl) (by (conv => lhs; whnf) <;> rfl) (by omega)) ?_
                    refine OW.q rfl rfl (yq_assign rfl (by (conv => lhs; whnf) <;> rfl)) ?_
                    refine OW.nil ?_
                    refine hK12 _ _ ?_
                    refine CW.region ?_
                    refine OW.q rfl rfl (yq_add rfl (by (conv => lhs; whnf) <;> rfl) (by (conv => lhs; whnf) <;> rfl) (by omega)) ?_
                    refine OW.q rfl rfl (yq_move rfl (by (conv => lhs; whnf) <;> rfl)) ?_
                    refine OW.nil ?_
                    exact ⟨(node lf x, i / 2, la / 2, j + 1), ⟨Has.mk ⟨(by (conv => lhs; whnf) <;> rfl), (by (conv => lhs; whnf) <;> rfl), (by (conv => lhs; whnf) <;> rfl), (by (conv => lhs; whnf) <;> rfl), (by (conv => lhs; whnf) <;> rfl), (by (conv => lhs; whnf) <;> rfl), (by (conv => lhs; whnf) <;> rfl), (by (conv => lhs; whnf) <;> rfl), (by (conv => lhs; whnf) <;> rfl), trivial⟩, by omega, by omega, by omega, by rw [hch, hd, chk_even (by omega) (fun h => hc5 (.inr (by omega))) (by omega)], rfl⟩, by show p.length - (j + 1) < p.length - j; omega⟩
            · have hfin : la = 0 ∨ j = p.length := .inr (by omega)
              refine CW.exit ?_
              refine then_exit ?_
              refine then_exit ?_
              refine blockQ_hit ?_
              refine hK8 _ _ ?_
              refine CW.seq_k fun K27 hK27 => ?_
              refine CW.seq_k fun K28 hK28 => ?_
              refine CW.region ?_
              refine OW.q rfl rfl (yq_move rfl (by (conv => lhs; whnf) <;> rfl)) ?_
              refine OW.qb rfl rfl (yq_neq rfl (by (conv => lhs; whnf) <;> rfl) (by (conv => lhs; whnf) <;> rfl)) (fun b73 hb73 => ?_)
              refine OW.q rfl rfl (yq_move rfl (by (conv => lhs; whnf) <;> rfl)) ?_
              apply OW.segOr 5 [75, 76, 77, 78] 79 hb73
              · intro hb73e
                refine QW.q (by subst hb73e; rfl) rfl (yq_move rfl (by (conv => lhs; whnf) <;> rfl)) ?_
                refine QW.q (by subst hb73e; rfl) rfl (yq_move rfl (by (conv => lhs; whnf) <;> rfl)) ?_
                refine QW.q (by subst hb73e; rfl) rfl (yq_len_slice rfl ts22 (by (conv => lhs; whnf) <;> rfl)) ?_
                refine QW.qb (by subst hb73e; rfl) rfl (yq_neq rfl (by (conv => lhs; whnf) <;> rfl) (by (conv => lhs; whnf) <;> rfl)) (fun b78 hb78 => ?_)
                refine QW.q rfl rfl (yq_pick rfl (by (conv => lhs; whnf) <;> rfl) (by subst hb73e; ((conv => lhs; whnf) <;> rfl))) ?_
                exact QW.nil (SegM.mk (any_c (any_c (any_c (any_c any_n)))) (or_run hb73 hb73e hb78))
              · intro hb73e
                refine QW.skip (by subst hb73e; rfl) rfl ?_
                refine QW.skip (by subst hb73e; rfl) rfl ?_
                refine QW.skip (by subst hb73e; rfl) rfl ?_
                refine QW.skip (by subst hb73e; rfl) rfl ?_
                refine QW.q rfl rfl (yq_pick rfl (by (conv => lhs; whnf) <;> rfl) (by subst hb73e; ((conv => lhs; whnf) <;> rfl))) ?_
                exact QW.nil (SegM.mk (any_c (any_c (any_c (any_c any_n)))) (or_skip hb73 hb73e))
              · intro ρ79 b79 hA hb79
                obtain ⟨x75, x76, x77, x78, rfl⟩ := hA
                refine OW.q rfl rfl (yq_move rfl (by (conv => lhs; whnf) <;> rfl)) ?_
                apply OW.segOr 4 [81, 82, 83] 84 hb79
                · intro hb79e
                  refine QW.q (by subst hb79e; rfl) rfl (yq_loadH rfl (by (conv => lhs; whnf) <;> rfl) ti25 (by repeat' first | exact List.mem_cons_self .. | apply List.mem_cons_of_mem)) ?_
                  refine QW.q (by subst hb79e; rfl) rfl (yq_loadH rfl (by (conv => lhs; whnf) <;> rfl) ti25 (by repeat' first | exact List.mem_cons_self .. | apply List.mem_cons_of_mem)) ?_
                  refine QW.qb (by subst hb79e; rfl) rfl (yq_neq_H rfl (by (conv => lhs; whnf) <;> rfl) (by (conv => lhs; whnf) <;> rfl) ta25 Tryd.underlying5 ti5 eg25) (fun b83 hb83 => ?_)
                  refine QW.q rfl rfl (yq_pick rfl (by (conv => lhs; whnf) <;> rfl) (by subst hb79e; ((conv => lhs; whnf) <;> rfl))) ?_
                  exact QW.nil (SegM.mk (any_c (any_c (any_c any_n))) (or_run hb79 hb79e hb83))
                · intro hb79e
                  refine QW.skip (by subst hb79e; rfl) rfl ?_
                  refine QW.skip (by subst hb79e; rfl) rfl ?_
                  refine QW.skip (by subst hb79e; rfl) rfl ?_
                  refine QW.q rfl rfl (yq_pick rfl (by (conv => lhs; whnf) <;> rfl) (by subst hb79e; ((conv => lhs; whnf) <;> rfl))) ?_
                  exact QW.nil (SegM.mk (any_c (any_c (any_c any_n))) (or_skip hb79 hb79e))
                · intro ρ84 b84 hA hb84
                  obtain ⟨x81, x82, x83, rfl⟩ := hA
                  refine OW.nil ?_
                  refine hK28 _ _ ?_
                  refine CW.condq (by (conv => lhs; whnf) <;> rfl) hb84 (fun hc9 => ?_) (fun hc9 => ?_)
                  · refine CW.seq_k fun K29 hK29 => ?_
                    refine CW.region ?_
                    refine OW.q rfl rfl (yq_assign rfl (by (conv => lhs; whnf) <;> rfl)) ?_
                    refine OW.nil ?_
                    refine hK29 _ _ ?_
                    refine CW.ret ?_
                    refine then_ret ?_
                    refine noGoto_ret ?_
                    -- ret (ret)
                    rw [checkL_in hc0, ← hcome, hch, chk_fin hj hfin, if_neg (by
                      rcases hc9 with h | h
                      · rw [if_neg (by omega)]; simp
                      · split
                        · simpa using h
                        · simp)]
                    exact fin1 (Or.inr rfl) rfl ⟨by decide, (by (conv => lhs; whnf) <;> rfl)⟩ (fun w hw => ⟨rfl, hw.sub (List.nil_sublist _)⟩)
                  · refine CW.skip ?_
                    refine hK27 _ _ ?_
                    refine CW.seq_k fun K30 hK30 => ?_
                    refine CW.region ?_
                    refine OW.q rfl rfl (yq_assign rfl (by (conv => lhs; whnf) <;> rfl)) ?_
                    refine OW.nil ?_
                    refine hK30 _ _ ?_
                    refine CW.ret ?_
                    refine noGoto_ret ?_
                    -- ret (ret)
                    rw [checkL_in hc0, ← hcome, hch, chk_fin hj hfin, if_pos (by
                      have h1 : ¬ ((la : Int) ≠ 0 ∨ (j : Int) ≠ (p.length : Int)) := fun h => hc9 (.inl h)
                      have h2 : lf = root := Decidable.byContradiction fun h => hc9 (.inr h)
                      rw [if_pos (by omega), h2])]
                    exact fin1 (Or.inr rfl) rfl ⟨by decide, (by (conv => lhs; whnf) <;> rfl)⟩ (fun w hw => ⟨rfl, hw.sub (List.nil_sublist _)⟩)

set_option maxRecDepth 100000 in
set_option maxHeartbeats 1000000 in
theorem same_calls (a b : List Hash) (va vb : Value) (w : World) (hal : a.length ≤ 4294967296) (ha : HsAt w va a) (hb : HsAt w vb b) :
    Calls Tryd.prog 43 #[va, vb] w fun e w' => e = .returned (.bool (decide (a = b))) ∧ Cl w [] [] w' := by
  have ha0 := ha
  obtain ⟨aa, ca, rfl⟩ := ha0.len
  have hb0 := hb
  obtain ⟨ab, cb, rfl⟩ := hb0.len
  refine calls_of_CW (L := []) Tryd.func43 rfl (Nat.le_of_ble_eq_true rfl) (Cl.refl _) ?_
  refine CW.seq_k fun K1 hK1 => ?_
  refine CW.region ?_
  refine OW.q rfl rfl (yq_assign rfl (by (conv => lhs; whnf) <;> rfl)) ?_
  refine OW.nil ?_
  refine hK1 _ _ ?_
  refine CW.seq_k fun K2 hK2 => ?_
  refine CW.seq_k fun K3 hK3 => ?_
  refine CW.region ?_
  refine OW.q rfl rfl (yq_move rfl (by (conv => lhs; whnf) <;> rfl)) ?_
  refine OW.q rfl rfl (yq_len_slice rfl ts22 (by (conv => lhs; whnf) <;> rfl)) ?_
  refine OW.q rfl rfl (yq_move rfl (by (conv => lhs; whnf) <;> rfl)) ?_
  refine OW.q rfl rfl (yq_len_slice rfl ts22 (by (conv => lhs; whnf) <;> rfl)) ?_
  refine OW.q rfl rfl (yq_neq rfl (by (conv => lhs; whnf) <;> rfl) (by (conv => lhs; whnf) <;> rfl)) ?_
  refine OW.nil ?_
  refine hK3 _ _ ?_
  refine CW.cond_dec (by (conv => lhs; whnf) <;> rfl) (fun hc0 => ?_) (fun hc0 => ?_)
  · refine CW.seq_k fun K4 hK4 => ?_
    refine CW.region ?_
    refine OW.q rfl rfl (yq_assign rfl (by (conv => lhs; whnf) <;> rfl)) ?_
    refine OW.nil ?_
    refine hK4 _ _ ?_
    refine CW.ret ?_
    refine then_ret ?_
    -- ret (ret)
    rw [decide_eq_false (show ¬ a = b from fun h => by subst h; exact hc0 rfl)]
    exact fin1 (Or.inr rfl) rfl ⟨by decide, (by (conv => lhs; whnf) <;> rfl)⟩ (fun w hw => ⟨rfl, hw⟩)
  · have hlen : a.length = b.length := by omega
    refine CW.skip ?_
    refine hK2 _ _ ?_
    refine CW.seq_k fun K5 hK5 => ?_
    refine CW.seq_k fun K6 hK6 => ?_
    refine CW.region ?_
    refine OW.q rfl rfl (yq_assign rfl (by (conv => lhs; whnf) <;> rfl)) ?_
    refine OW.nil ?_
    refine hK6 _ _ ?_
    refine CW.block ?_
    refine CW.loop (σ := Nat) (fun j ρ L => Has ρ [(0, .slice aa a.length ca), (1, .slice ab b.length cb), (5, .int .i64 (j : Int))] ∧ j ≤ a.length ∧ a.take j = b.take j ∧ L = []) (fun j => a.length - j) (0) ?_ ?_
    · exact ⟨Has.mk ⟨(by (conv => lhs; whnf) <;> rfl), (by (conv => lhs; whnf) <;> rfl), (by (conv => lhs; whnf) <;> rfl), trivial⟩, Nat.zero_le _, rfl, rfl⟩
    · rintro j _ _ ⟨⟨ρ', rfl⟩, hj, htk, rfl⟩
      refine CW.seq_k fun K7 hK7 => ?_
      refine CW.seq_k fun K8 hK8 => ?_
      refine CW.region ?_
      refine OW.q rfl rfl (yq_move rfl (by (conv => lhs; whnf) <;> rfl)) ?_
      refine OW.q rfl rfl (yq_move rfl (by (conv => lhs; whnf) <;> rfl)) ?_
      refine OW.q rfl rfl (yq_len_slice rfl ts22 (by (conv => lhs; whnf) <;> rfl)) ?_
      refine OW.q rfl rfl (yq_lss rfl (by (conv => lhs; whnf) <;> rfl) (by (conv => lhs; whnf) <;> rfl)) ?_
      refine OW.nil ?_
      refine hK8 _ _ ?_
      refine CW.cond_dec (by (conv => lhs; whnf) <;> rfl) (fun hc2 => ?_) (fun hc2 => ?_)
      · have hlt : j < a.length := by omega
        obtain ⟨b1, off1, cp1, hv1, hcp1⟩ := ha.place (fun e => by subst e; simp at hlt)
        rw [Value.slice.injEq] at hv1
        obtain ⟨rfl, _, rfl⟩ := hv1
        obtain ⟨b2, off2, cp2, hv2, hcp2⟩ := hb.place (fun e => by subst e; rw [hlen] at hlt; exact absurd hlt (Nat.not_lt_zero _))
        rw [Value.slice.injEq] at hv2
        obtain ⟨rfl, _, rfl⟩ := hv2
        refine CW.skip ?_
        refine hK7 _ _ ?_
        refine CW.seq_k fun K9 hK9 => ?_
        refine CW.block ?_
        refine CW.seq_k fun K10 hK10 => ?_
        refine CW.draw mixed (by kernel_rfl) ?_
        refine QW.q rfl rfl (yq_move rfl (by (conv => lhs; whnf) <;> rfl)) ?_
        refine QW.q rfl rfl (yq_move rfl (by (conv => lhs; whnf) <;> rfl)) ?_
        refine QW.q rfl rfl (yq_index_slice rfl (by (conv => lhs; whnf) <;> rfl) (by (conv => lhs; whnf) <;> rfl) ts22 ti25 (by omega) (by omega)) ?_
        refine QW.q rfl rfl (yq_load_hs (i := j) (v := a.getD j zeroHash) rfl (by (conv => lhs; whnf) <;> rfl) ti25 (fun w hw => ha.mono hw) (at_of_lt hlt)) ?_
        refine QW.q rfl rfl (yq_move rfl (by (conv => lhs; whnf) <;> rfl)) ?_
        refine QW.q rfl rfl (yq_move rfl (by (conv => lhs; whnf) <;> rfl)) ?_
        refine QW.q rfl rfl (yq_index_slice rfl (by (conv => lhs; whnf) <;> rfl) (by (conv => lhs; whnf) <;> rfl) ts22 ti25 (by omega) (by omega)) ?_
        refine QW.q rfl rfl (yq_load_hs (i := j) (v := b.getD j zeroHash) rfl (by (conv => lhs; whnf) <;> rfl) ti25 (fun w hw => hb.mono hw) (at_of_lt (by omega))) ?_
        refine QW.q rfl rfl (yq_neq_H rfl (by (conv => lhs; whnf) <;> rfl) (by (conv => lhs; whnf) <;> rfl) ta25 Tryd.underlying5 ti5 eg25) ?_
        refine QW.nil ?_
        refine hK10 _ _ ?_
        refine CW.cond_dec (by (conv => lhs; whnf) <;> rfl) (fun hc4 => ?_) (fun hc4 => ?_)
        · refine CW.seq_k fun K11 hK11 => ?_
          refine CW.region ?_
          refine OW.q rfl rfl (yq_assign rfl (by (conv => lhs; whnf) <;> rfl)) ?_
          refine OW.nil ?_
          refine hK11 _ _ ?_
          refine CW.ret ?_
          refine blockQ_ret ?_
          refine then_ret ?_
          refine then_ret ?_
          refine blockQ_ret ?_
          refine then_ret ?_
          -- ret (ret)
          rw [decide_eq_false (show ¬ a = b from fun h => by subst h; exact hc4 rfl)]
          exact fin1 (Or.inr rfl) rfl ⟨by decide, (by (conv => lhs; whnf) <;> rfl)⟩ (fun w hw => ⟨rfl, hw⟩)
        · refine CW.skip ?_
          refine hK9 _ _ ?_
          refine CW.region ?_
          refine OW.q rfl rfl (yq_move rfl (by (conv => lhs; whnf) <;> rfl)) ?_
          refine OW.q rfl rfl (yq_add rfl (by (conv => lhs; whnf) <;> rfl) (by (conv => lhs; whnf) <;> rfl) (by omega)) ?_
          refine OW.q rfl rfl (yq_assign rfl (by (conv => lhs; whnf) <;> rfl)) ?_
          refine OW.nil ?_
          exact ⟨j + 1, ⟨Has.mk ⟨(by (conv => lhs; whnf) <;> rfl), (by (conv => lhs; whnf) <;> rfl), (by (conv => lhs; whnf) <;> rfl), trivial⟩, by omega, by rw [List.take_add_one, List.take_add_one, htk, at_of_lt hlt, at_of_lt (by omega), Decidable.byContradiction hc4], rfl⟩, by omega⟩
      · refine CW.exit ?_
        refine then_exit ?_
        refine then_exit ?_
        refine blockQ_hit ?_
        refine hK5 _ _ ?_
        refine CW.seq_k fun K12 hK12 => ?_
        refine CW.region ?_
        refine OW.q rfl rfl (yq_assign rfl (by (conv => lhs; whnf) <;> rfl)) ?_
        refine OW.nil ?_
        refine hK12 _ _ ?_
        refine CW.ret ?_
        -- ret (ret)
        rw [decide_eq_true (show a = b by have h1 : a.take a.length = b.take a.length := by { rw [show a.length = j by omega]; exact htk }; rwa [List.take_length, hlen, List.take_length] at h1)]
        exact fin1 (Or.inr rfl) rfl ⟨by decide, (by (conv => lhs; whnf) <;> rfl)⟩ (fun w hw => ⟨rfl, hw⟩)

end Go.Proofs.YtahdekllphehkaaDoor

namespace Go.Proofs.YtahdekllphehkaaDoor
open Go.WL Go.Spec

theorem sp2 : sp 2 = 1 := by rw [sp_dec]; decide
theorem sp4 : sp 4 = 2 := by rw [sp_dec]; decide
theorem sp5 : sp 5 = 4 := by rw [sp_dec]; decide
theorem path2_0 (a b : Hash) : pathL [a, b] 0 = [b] := by
  have e : sp ([a, b] : List Hash).length = 1 := sp2
  rw [pathL_left (by simp) (by rw [e]; decide), e]
  show pathL [a] 0 ++ [rootL [b]] = _
  rw [pathL_small _ (by simp), rootL_one]; rfl
theorem path4_2 (a b c d : Hash) : pathL [a, b, c, d] 2 = [d, node a b] := by
  have e : sp ([a, b, c, d] : List Hash).length = 2 := sp4
  rw [pathL_right (by simp) (by rw [e]; decide), e]
  show pathL [c, d] 0 ++ [rootL [a, b]] = _
  rw [path2_0, rootL_two]; rfl
theorem path5_2 (a b c d e : Hash) : pathL [a, b, c, d, e] 2 = [d, node a b, e] := by
  have h : sp ([a, b, c, d, e] : List Hash).length = 4 := sp5
  rw [pathL_left (by simp) (by rw [h]; decide), h]
  show pathL [a, b, c, d] 2 ++ [rootL [e]] = _
  rw [path4_2, rootL_one]; rfl
theorem path5_4 (a b c d e : Hash) : pathL [a, b, c, d, e] 4 = [rootL [a, b, c, d]] := by
  have h : sp ([a, b, c, d, e] : List Hash).length = 4 := sp5
  rw [pathL_right (by simp) (by rw [h]; decide), h]
  show pathL [e] 0 ++ [rootL [a, b, c, d]] = _
  rw [pathL_small _ (by simp)]; rfl
theorem depth5_2 : depth 2 5 = 3 := by
  rw [depth_left (by decide) (by rw [sp5]; decide), sp5, depth_right (by decide) (by rw [sp4]; decide), sp4, depth_left (by decide) (by rw [sp2]; decide), sp2, depth_small (by decide)]
theorem someL5 : someL 4 5 = [someH 4 0, someH 4 1, someH 4 2, someH 4 3, someH 4 4] := rfl
theorem fd_e (i : Int) (h : 0 ≤ i ∧ i < 5) : pathE (someL 4 5) i = 0 := pathE_ok (by rw [someL_length]; omega)
theorem fd_5 : pathE (someL 4 5) 5 = 2 := pathE_bad (by rw [someL_length]; omega)
theorem fd_2 : pathR (someL 4 5) 2 = [someH 4 3, node (someH 4 0) (someH 4 1), someH 4 4] := by
  rw [show (2 : Int) = ((2 : Nat) : Int) from rfl, pathR_ok (by rw [someL_length]; omega), someL5, path5_2]
theorem fd_4 : pathR (someL 4 5) 4 = pathL (someL 4 5) 4 := by rw [show (4 : Int) = ((4 : Nat) : Int) from rfl, pathR_ok (by rw [someL_length]; omega)]
theorem fd_41 : pathR (someL 4 5) 4 = [rootL ((someL 4 5).take 4)] := by rw [fd_4, someL5, path5_4]; rfl
theorem check_own (l : List Hash) (i : Nat) (hi : i < l.length) (hl : l.length ≤ 4096) : checkL (l.getD i zeroHash) (i : Int) (l.length : Int) (pathL l i) (rootL l) = 0 := by
  rw [checkL_in (by omega), come_path _ l i (Nat.le_refl _) hi, if_pos rfl]
theorem check_len (leaf root : Hash) (i n : Nat) (p : List Hash) (hi : i < n) (hn : n ≤ 4096) (hp : p.length ≠ depth i n) : checkL leaf (i : Int) (n : Int) p root = 80 := by
  rw [checkL_in (by omega), if_neg]
  intro h
  have := comeR_length leaf p.reverse i n (by omega) (by rw [h]; rfl)
  rw [List.length_reverse] at this
  exact hp this
theorem fd_c4 : checkL (someH 4 4) 4 5 (pathR (someL 4 5) 4) (rootL (someL 4 5)) = 0 := by
  have := check_own (someL 4 5) 4 (by rw [someL_length]; decide) (by rw [someL_length]; decide)
  rw [fd_4]
  rw [someL_length] at this
  exact this
theorem fd_c2 : checkL (someH 4 2) 2 5 (pathR (someL 4 5) 4) (rootL (someL 4 5)) = 80 :=
  check_len _ _ 2 5 _ (by decide) (by decide) (by rw [fd_41, depth5_2]; decide)
theorem hsBlk {w w0 : World} {E : List Nat} {L : List Ent} {b : Nat} {T : TypeId} {fz : Nat × Nat} (l : List Hash) (hc' : Cl w0 E L w) (hm : Ent.blk b (l.flatMap hc) T fz ∈ L) : HsAt w (.slice (some ⟨b, 0, none⟩) l.length l.length) l :=
  HsAt.blk (Nat.le_refl _) (fun _ _ h => h) (hc'.own _ hm)

set_option maxRecDepth 100000 in
set_option maxHeartbeats 1000000 in
theorem found_calls (w : World) (hg : GL w) : Calls Tryd.prog 40 #[] w fun e w' => e = .returned (.bool true) ∧ Cl w [] [] w' := by
  refine calls_of_CW (L := []) Tryd.func40 rfl (Nat.le_of_ble_eq_true rfl) (Cl.refl _) ?_
  refine CW.seq_k fun K1 hK1 => ?_
  refine CW.region ?_
  refine OW.q rfl rfl (yq_assign rfl (by (conv => lhs; whnf) <;> rfl)) ?_
  refine OW.nil ?_
  refine hK1 _ _ ?_
  refine CW.seq_k fun K2 hK2 => ?_
  refine CW.region ?_
  refine OW.calln rfl rfl rfl (by (conv => lhs; whnf) <;> rfl) (.cons (by (conv => lhs; whnf) <;> rfl) (.cons (by (conv => lhs; whnf) <;> rfl) .nil)) en26 (fun w hw => some_calls 5 4 w (by decide)) ?_
  rintro _ _ ⟨a, cap, rfl, rfl⟩
  refine OW.know _ (know_row (List.mem_cons_self ..) (by decide)) ?_
  rintro ⟨g, rfl⟩
  have hsR : ∀ {L' : List Ent} {w1 : World}, Cl w [] L' w1 → Ent.row (some g) cap 5 25 32 ((someL 4 5).flatMap hc) ∈ L' → HsAt w1 (rowV (some g) 5 cap) (someL 4 5) := fun hw1 hm => HsAt.row rfl (hw1.own _ hm)
  refine OW.know (5 ≤ cap) (fun w1 hw1 => hsAt_cap (a := some ⟨g, 0, none⟩) (n := 5) (hsR hw1 (List.mem_cons_self ..))) ?_
  intro hcap
  refine OW.q rfl rfl (yq_assign rfl (by (conv => lhs; whnf) <;> rfl)) ?_
  refine OW.nil ?_
  refine hK2 _ _ ?_
  refine CW.seq_k fun K3 hK3 => ?_
  refine CW.region ?_
  refine OW.q rfl rfl (yq_move rfl (by (conv => lhs; whnf) <;> rfl)) ?_
  refine OW.calln rfl rfl rfl (by (conv => lhs; whnf) <;> rfl) (.cons (by (conv => lhs; whnf) <;> rfl) (.cons (by (conv => lhs; whnf) <;> rfl) .nil)) en41 (fun w hw => path_calls _ (someL 4 5) 2 w (hsR hw (by repeat' first | exact List.mem_cons_self .. | apply List.mem_cons_of_mem)) (by rw [someL_length]; decide) (by decide) (by decide) (Cl_gl0 hw hg)) ?_
  rintro _ _ ⟨_, rfl, a2, c2, rfl, rfl⟩
  refine OW.q rfl rfl (yq_move rfl (by (conv => lhs; whnf) <;> rfl)) ?_
  refine OW.q rfl rfl (yq_extract rfl (by (conv => lhs; whnf) <;> rfl) rfl) ?_
  refine OW.q rfl rfl (yq_extract rfl (by (conv => lhs; whnf) <;> rfl) rfl) ?_
  refine OW.q rfl rfl (yq_assign rfl (by (conv => lhs; whnf) <;> rfl)) ?_
  refine OW.q rfl rfl (yq_assign rfl (by (conv => lhs; whnf) <;> rfl)) ?_
  refine OW.nil ?_
  refine hK3 _ _ ?_
  refine CW.seq_k fun K4 hK4 => ?_
  refine CW.region ?_
  refine OW.q rfl rfl (yq_move rfl (by (conv => lhs; whnf) <;> rfl)) ?_
  refine OW.calln rfl rfl rfl (by (conv => lhs; whnf) <;> rfl) (.cons (by (conv => lhs; whnf) <;> rfl) (.cons (by (conv => lhs; whnf) <;> rfl) .nil)) en41 (fun w hw => path_calls _ (someL 4 5) 4 w (hsR hw (by repeat' first | exact List.mem_cons_self .. | apply List.mem_cons_of_mem)) (by rw [someL_length]; decide) (by decide) (by decide) (Cl_gl0 hw hg)) ?_
  rintro _ _ ⟨_, rfl, a4, c4, rfl, rfl⟩
  refine OW.q rfl rfl (yq_move rfl (by (conv => lhs; whnf) <;> rfl)) ?_
  refine OW.q rfl rfl (yq_extract rfl (by (conv => lhs; whnf) <;> rfl) rfl) ?_
  refine OW.q rfl rfl (yq_extract rfl (by (conv => lhs; whnf) <;> rfl) rfl) ?_
  refine OW.q rfl rfl (yq_assign rfl (by (conv => lhs; whnf) <;> rfl)) ?_
  refine OW.q rfl rfl (yq_assign rfl (by (conv => lhs; whnf) <;> rfl)) ?_
  refine OW.nil ?_
  refine hK4 _ _ ?_
  refine CW.seq_k fun K5 hK5 => ?_
  refine CW.region ?_
  refine OW.q rfl rfl (yq_move rfl (by (conv => lhs; whnf) <;> rfl)) ?_
  refine OW.calln rfl rfl rfl (by (conv => lhs; whnf) <;> rfl) (.cons (by (conv => lhs; whnf) <;> rfl) (.cons (by (conv => lhs; whnf) <;> rfl) .nil)) en41 (fun w hw => path_calls _ (someL 4 5) 5 w (hsR hw (by repeat' first | exact List.mem_cons_self .. | apply List.mem_cons_of_mem)) (by rw [someL_length]; decide) (by decide) (by decide) (Cl_gl0 hw hg)) ?_
  rintro _ _ ⟨_, rfl, a5, c5, rfl, rfl⟩
  refine OW.q rfl rfl (yq_move rfl (by (conv => lhs; whnf) <;> rfl)) ?_
  refine OW.q rfl rfl (yq_extract rfl (by (conv => lhs; whnf) <;> rfl) rfl) ?_
  refine OW.q rfl rfl (yq_extract rfl (by (conv => lhs; whnf) <;> rfl) rfl) ?_
  refine OW.q rfl rfl (yq_assign rfl (by (conv => lhs; whnf) <;> rfl)) ?_
  refine OW.q rfl rfl (yq_assign rfl (by (conv => lhs; whnf) <;> rfl)) ?_
  refine OW.nil ?_
  refine hK5 _ _ ?_
  refine CW.seq_k fun K6 hK6 => ?_
  refine CW.region ?_
  refine OW.q rfl rfl (yq_move rfl (by (conv => lhs; whnf) <;> rfl)) ?_
  refine OW.q rfl rfl (yq_call rfl rfl (.cons (by (conv => lhs; whnf) <;> rfl) .nil) en24 (fun w hw => root_calls _ (someL 4 5) w (hsR hw (by repeat' first | exact List.mem_cons_self .. | apply List.mem_cons_of_mem)) (by rw [someL_length]; decide) (Cl_gl0 hw hg))) ?_
  refine OW.alloc rfl rfl rfl tz25 (fun b8 => ?_)
  refine OW.storeH rfl rfl rfl (by (conv => lhs; whnf) <;> rfl) (by (conv => lhs; whnf) <;> rfl) ti25 (by repeat' first | exact Put.head | apply Put.tail) (hc_length _) ?_
  refine OW.nil ?_
  refine hK6 _ _ ?_
  refine CW.seq_k fun K7 hK7 => ?_
  refine CW.heldL mixed ?_
  refine HW.take 0 rfl (by kernel_rfl) (by kernel_rfl) (by kernel_rfl) rfl rfl (by repeat' first | exact List.Sublist.refl _ | exact List.nil_sublist _ | apply List.Sublist.cons) (yv_of_yq rfl (yq_move rfl (by (conv => lhs; whnf) <;> rfl))) ?_
  refine HW.take 1 rfl (by kernel_rfl) (by kernel_rfl) (by kernel_rfl) rfl rfl (by repeat' first | exact List.Sublist.refl _ | exact List.nil_sublist _ | apply List.Sublist.cons) (yv_of_yq rfl ((yq_eql rfl (by (conv => lhs; whnf) <;> rfl) (by (conv => lhs; whnf) <;> rfl)).to (v' := .bool true) (by rw [decide_eq_true (fd_e 2 (by decide))]))) ?_
  refine HW.take 2 rfl (by kernel_rfl) (by kernel_rfl) (by kernel_rfl) rfl rfl (by repeat' first | exact List.Sublist.refl _ | exact List.nil_sublist _ | apply List.Sublist.cons) (yv_of_yq rfl (yq_move rfl (by (conv => lhs; whnf) <;> rfl))) ?_
  refine HW.take 3 rfl (by kernel_rfl) (by kernel_rfl) (by kernel_rfl) rfl rfl (by repeat' first | exact List.Sublist.refl _ | exact List.nil_sublist _ | apply List.Sublist.cons) (yv_of_yq rfl (yq_move rfl (by (conv => lhs; whnf) <;> rfl))) ?_
  refine HW.take 4 rfl (by kernel_rfl) (by kernel_rfl) (by kernel_rfl) rfl rfl (by repeat' first | exact List.Sublist.refl _ | exact List.nil_sublist _ | apply List.Sublist.cons) (yv_of_yq rfl ((yq_eql rfl (by (conv => lhs; whnf) <;> rfl) (by (conv => lhs; whnf) <;> rfl)).to (v' := .bool true) (by rw [decide_eq_true (fd_e 4 (by decide))]))) ?_
  refine HW.take 5 rfl (by kernel_rfl) (by kernel_rfl) (by kernel_rfl) rfl rfl (by repeat' first | exact List.Sublist.refl _ | exact List.nil_sublist _ | apply List.Sublist.cons) (yv_of_yq rfl (yq_pick rfl (by (conv => lhs; whnf) <;> rfl) (by (conv => lhs; whnf) <;> rfl))) ?_
  refine HW.take 6 rfl (by kernel_rfl) (by kernel_rfl) (by kernel_rfl) rfl rfl (by repeat' first | exact List.Sublist.refl _ | exact List.nil_sublist _ | apply List.Sublist.cons) (yv_of_yq rfl (yq_move rfl (by (conv => lhs; whnf) <;> rfl))) ?_
  refine HW.take 7 rfl (by kernel_rfl) (by kernel_rfl) (by kernel_rfl) rfl rfl (by repeat' first | exact List.Sublist.refl _ | exact List.nil_sublist _ | apply List.Sublist.cons) (yv_of_yq rfl (yq_move rfl (by (conv => lhs; whnf) <;> rfl))) ?_
  refine HW.take 8 rfl (by kernel_rfl) (by kernel_rfl) (by kernel_rfl) rfl rfl (by repeat' first | exact List.Sublist.refl _ | exact List.nil_sublist _ | apply List.Sublist.cons) (yv_of_yq rfl ((yq_eql rfl (by (conv => lhs; whnf) <;> rfl) (by (conv => lhs; whnf) <;> rfl)).to (v' := .bool true) (by rw [decide_eq_true fd_5]))) ?_
  refine HW.take 9 rfl (by kernel_rfl) (by kernel_rfl) (by kernel_rfl) rfl rfl (by repeat' first | exact List.Sublist.refl _ | exact List.nil_sublist _ | apply List.Sublist.cons) (yv_of_yq rfl (yq_pick rfl (by (conv => lhs; whnf) <;> rfl) (by (conv => lhs; whnf) <;> rfl))) ?_
  refine HW.take 10 rfl (by kernel_rfl) (by kernel_rfl) (by kernel_rfl) rfl rfl (by repeat' first | exact List.Sublist.refl _ | exact List.nil_sublist _ | apply List.Sublist.cons) (yv_of_yq rfl (yq_move rfl (by (conv => lhs; whnf) <;> rfl))) ?_
  refine HW.take 11 rfl (by kernel_rfl) (by kernel_rfl) (by kernel_rfl) rfl rfl (by repeat' first | exact List.Sublist.refl _ | exact List.nil_sublist _ | apply List.Sublist.cons) (yv_of_yq rfl (yq_move rfl (by (conv => lhs; whnf) <;> rfl))) ?_
  refine HW.take 12 rfl (by kernel_rfl) (by kernel_rfl) (by kernel_rfl) rfl rfl (by repeat' first | exact List.Sublist.refl _ | exact List.nil_sublist _ | apply List.Sublist.cons) (yv_of_yq rfl (yq_move rfl (by (conv => lhs; whnf) <;> rfl))) ?_
  refine HW.take 13 rfl (by kernel_rfl) (by kernel_rfl) (by kernel_rfl) rfl rfl (by repeat' first | exact List.Sublist.refl _ | exact List.nil_sublist _ | apply List.Sublist.cons) (yv_of_yq rfl (yq_index_slice rfl (by (conv => lhs; whnf) <;> rfl) (by (conv => lhs; whnf) <;> rfl) ts22 ti25 (by decide) (by decide))) ?_
  refine HW.take 14 rfl (by kernel_rfl) (by kernel_rfl) (by kernel_rfl) rfl rfl (by repeat' first | exact List.Sublist.refl _ | exact List.nil_sublist _ | apply List.Sublist.cons) (yv_of_yq rfl (yq_load_hs (i := 3) (v := someH 4 3) rfl (by (conv => lhs; whnf) <;> rfl) ti25 (fun w hw => hsR hw (by repeat' first | exact List.mem_cons_self .. | apply List.mem_cons_of_mem)) rfl)) ?_
  refine HW.take 15 rfl (by kernel_rfl) (by kernel_rfl) (by kernel_rfl) rfl rfl (by repeat' first | exact List.Sublist.refl _ | exact List.nil_sublist _ | apply List.Sublist.cons) (yv_of_yq rfl (yq_move rfl (by (conv => lhs; whnf) <;> rfl))) ?_
  refine HW.take 16 rfl (by kernel_rfl) (by kernel_rfl) (by kernel_rfl) rfl rfl (by repeat' first | exact List.Sublist.refl _ | exact List.nil_sublist _ | apply List.Sublist.cons) (yv_of_yq rfl (yq_index_slice rfl (by (conv => lhs; whnf) <;> rfl) (by (conv => lhs; whnf) <;> rfl) ts22 ti25 (by decide) (by decide))) ?_
  refine HW.take 17 rfl (by kernel_rfl) (by kernel_rfl) (by kernel_rfl) rfl rfl (by repeat' first | exact List.Sublist.refl _ | exact List.nil_sublist _ | apply List.Sublist.cons) (yv_of_yq rfl (yq_load_hs (i := 0) (v := someH 4 0) rfl (by (conv => lhs; whnf) <;> rfl) ti25 (fun w hw => hsR hw (by repeat' first | exact List.mem_cons_self .. | apply List.mem_cons_of_mem)) rfl)) ?_
  refine HW.take 18 rfl (by kernel_rfl) (by kernel_rfl) (by kernel_rfl) rfl rfl (by repeat' first | exact List.Sublist.refl _ | exact List.nil_sublist _ | apply List.Sublist.cons) (yv_of_yq rfl (yq_move rfl (by (conv => lhs; whnf) <;> rfl))) ?_
  refine HW.take 19 rfl (by kernel_rfl) (by kernel_rfl) (by kernel_rfl) rfl rfl (by repeat' first | exact List.Sublist.refl _ | exact List.nil_sublist _ | apply List.Sublist.cons) (yv_of_yq rfl (yq_index_slice rfl (by (conv => lhs; whnf) <;> rfl) (by (conv => lhs; whnf) <;> rfl) ts22 ti25 (by decide) (by decide))) ?_
  refine HW.take 20 rfl (by kernel_rfl) (by kernel_rfl) (by kernel_rfl) rfl rfl (by repeat' first | exact List.Sublist.refl _ | exact List.nil_sublist _ | apply List.Sublist.cons) (yv_of_yq rfl (yq_load_hs (i := 1) (v := someH 4 1) rfl (by (conv => lhs; whnf) <;> rfl) ti25 (fun w hw => hsR hw (by repeat' first | exact List.mem_cons_self .. | apply List.mem_cons_of_mem)) rfl)) ?_
  refine HW.take 22 rfl (by kernel_rfl) (by kernel_rfl) (by kernel_rfl) rfl rfl (by repeat' first | exact List.Sublist.refl _ | exact List.nil_sublist _ | apply List.Sublist.cons) (yv_of_yq rfl (yq_move rfl (by (conv => lhs; whnf) <;> rfl))) ?_
  refine HW.take 23 rfl (by kernel_rfl) (by kernel_rfl) (by kernel_rfl) rfl rfl (by repeat' first | exact List.Sublist.refl _ | exact List.nil_sublist _ | apply List.Sublist.cons) (yv_of_yq rfl (yq_index_slice rfl (by (conv => lhs; whnf) <;> rfl) (by (conv => lhs; whnf) <;> rfl) ts22 ti25 (by decide) (by decide))) ?_
  refine HW.take 24 rfl (by kernel_rfl) (by kernel_rfl) (by kernel_rfl) rfl rfl (by repeat' first | exact List.Sublist.refl _ | exact List.nil_sublist _ | apply List.Sublist.cons) (yv_of_yq rfl (yq_load_hs (i := 4) (v := someH 4 4) rfl (by (conv => lhs; whnf) <;> rfl) ti25 (fun w hw => hsR hw (by repeat' first | exact List.mem_cons_self .. | apply List.mem_cons_of_mem)) rfl)) ?_
  refine HW.one 21 (by kernel_rfl) rfl ?_
  refine OW.q rfl rfl (yq_call rfl rfl (.cons (by (conv => lhs; whnf) <;> rfl) ( .cons (by (conv => lhs; whnf) <;> rfl) .nil)) en27 (fun w hw => node_calls _ _ w (Cl_gl0 hw hg))) ?_
  refine OW.nil ⟨rfl, (by repeat' first | exact List.Sublist.refl _ | exact List.nil_sublist _ | apply List.Sublist.cons), ?_⟩
  refine HW.one 25 (by kernel_rfl) rfl ?_
  refine OW.slicelit (vs := [HV (someH 4 3), HV (node (someH 4 0) (someH 4 1)), HV (someH 4 4)]) rfl rfl rfl rfl ts22 ti25 tz25 (by decide) rfl (by decide) (by simp [HV_cells]) (by decide) (cs := ([(someH 4 3), (node (someH 4 0) (someH 4 1)), (someH 4 4)] : List Hash).flatMap hc) (by simp [HV_cells]) (fun bl => ?_)
  refine OW.nil ⟨rfl, (by repeat' first | exact List.Sublist.refl _ | exact List.nil_sublist _ | apply List.Sublist.cons), ?_⟩
  refine HW.one 26 (by kernel_rfl) rfl ?_
  refine OW.q rfl rfl ((yq_call rfl rfl (.cons (by (conv => lhs; whnf) <;> rfl) (.cons (by (conv => lhs; whnf) <;> rfl) .nil)) en43 (fun w hw => same_calls (pathR (someL 4 5) 2) [someH 4 3, node (someH 4 0) (someH 4 1), someH 4 4] _ _ w (by rw [fd_2]; decide) (HsAt.row rfl (hw.own _ (by repeat' first | exact List.mem_cons_self .. | apply List.mem_cons_of_mem))) (hsBlk _ hw (by repeat' first | exact List.mem_cons_self .. | apply List.mem_cons_of_mem)))).to (v' := .bool true) (by rw [decide_eq_true fd_2])) ?_
  refine OW.nil ⟨rfl, (by repeat' first | exact List.Sublist.refl _ | exact List.nil_sublist _ | apply List.Sublist.cons), ?_⟩
  refine HW.take 27 rfl (by kernel_rfl) (by kernel_rfl) (by kernel_rfl) rfl rfl (by repeat' first | exact List.Sublist.refl _ | exact List.nil_sublist _ | apply List.Sublist.cons) (yv_of_yq rfl (yq_pick rfl (by (conv => lhs; whnf) <;> rfl) (by (conv => lhs; whnf) <;> rfl))) ?_
  refine HW.take 28 rfl (by kernel_rfl) (by kernel_rfl) (by kernel_rfl) rfl rfl (by repeat' first | exact List.Sublist.refl _ | exact List.nil_sublist _ | apply List.Sublist.cons) (yv_of_yq rfl (yq_move rfl (by (conv => lhs; whnf) <;> rfl))) ?_
  refine HW.take 29 rfl (by kernel_rfl) (by kernel_rfl) (by kernel_rfl) rfl rfl (by repeat' first | exact List.Sublist.refl _ | exact List.nil_sublist _ | apply List.Sublist.cons) (yv_of_yq rfl (yq_move rfl (by (conv => lhs; whnf) <;> rfl))) ?_
  refine HW.take 30 rfl (by kernel_rfl) (by kernel_rfl) (by kernel_rfl) rfl rfl (by repeat' first | exact List.Sublist.refl _ | exact List.nil_sublist _ | apply List.Sublist.cons) (yv_of_yq rfl (yq_move rfl (by (conv => lhs; whnf) <;> rfl))) ?_
  refine HW.take 31 rfl (by kernel_rfl) (by kernel_rfl) (by kernel_rfl) rfl rfl (by repeat' first | exact List.Sublist.refl _ | exact List.nil_sublist _ | apply List.Sublist.cons) (yv_of_yq rfl (yq_slice_slice (b := g) (off := 0) (len := 5) (cap := cap) (l := 0) (h := 4) rfl (by (conv => lhs; whnf) <;> rfl) ts22 ti25 rfl ⟨_, _, (by (conv => lhs; whnf) <;> rfl), by omega, by omega⟩ (by omega) (by omega))) ?_
  refine HW.one 32 (by kernel_rfl) rfl ?_
  refine OW.q rfl rfl (yq_call rfl rfl (.cons (by (conv => lhs; whnf) <;> rfl) .nil) en24 (fun w hw => root_calls _ ((someL 4 5).take 4) w (sliceT (l := someL 4 5) (hsR hw (by repeat' first | exact List.mem_cons_self .. | apply List.mem_cons_of_mem)) 4 (by rw [someL_length]; decide)) (by rw [List.length_take, someL_length]; decide) (Cl_gl0 hw hg))) ?_
  refine OW.nil ⟨rfl, (by repeat' first | exact List.Sublist.refl _ | exact List.nil_sublist _ | apply List.Sublist.cons), ?_⟩
  refine HW.one 33 (by kernel_rfl) rfl ?_
  refine OW.slicelit (vs := [HV (rootL ((someL 4 5).take 4))]) rfl rfl rfl rfl ts22 ti25 tz25 (by decide) rfl (by decide) (by simp [HV_cells]) (by decide) (cs := ([(rootL ((someL 4 5).take 4))] : List Hash).flatMap hc) (by simp [HV_cells]) (fun bl => ?_)
  refine OW.nil ⟨rfl, (by repeat' first | exact List.Sublist.refl _ | exact List.nil_sublist _ | apply List.Sublist.cons), ?_⟩
  refine HW.one 34 (by kernel_rfl) rfl ?_
  refine OW.q rfl rfl ((yq_call rfl rfl (.cons (by (conv => lhs; whnf) <;> rfl) (.cons (by (conv => lhs; whnf) <;> rfl) .nil)) en43 (fun w hw => same_calls (pathR (someL 4 5) 4) [rootL ((someL 4 5).take 4)] _ _ w (by rw [fd_41]; decide) (HsAt.row rfl (hw.own _ (by repeat' first | exact List.mem_cons_self .. | apply List.mem_cons_of_mem))) (hsBlk _ hw (by repeat' first | exact List.mem_cons_self .. | apply List.mem_cons_of_mem)))).to (v' := .bool true) (by rw [decide_eq_true fd_41])) ?_
  refine OW.nil ⟨rfl, (by repeat' first | exact List.Sublist.refl _ | exact List.nil_sublist _ | apply List.Sublist.cons), ?_⟩
  refine HW.take 35 rfl (by kernel_rfl) (by kernel_rfl) (by kernel_rfl) rfl rfl (by repeat' first | exact List.Sublist.refl _ | exact List.nil_sublist _ | apply List.Sublist.cons) (yv_of_yq rfl (yq_pick rfl (by (conv => lhs; whnf) <;> rfl) (by (conv => lhs; whnf) <;> rfl))) ?_
  refine HW.take 36 rfl (by kernel_rfl) (by kernel_rfl) (by kernel_rfl) rfl rfl (by repeat' first | exact List.Sublist.refl _ | exact List.nil_sublist _ | apply List.Sublist.cons) (yv_of_yq rfl (yq_move rfl (by (conv => lhs; whnf) <;> rfl))) ?_
  refine HW.take 37 rfl (by kernel_rfl) (by kernel_rfl) (by kernel_rfl) rfl rfl (by repeat' first | exact List.Sublist.refl _ | exact List.nil_sublist _ | apply List.Sublist.cons) (yv_of_yq rfl (yq_move rfl (by (conv => lhs; whnf) <;> rfl))) ?_
  refine HW.take 38 rfl (by kernel_rfl) (by kernel_rfl) (by kernel_rfl) rfl rfl (by repeat' first | exact List.Sublist.refl _ | exact List.nil_sublist _ | apply List.Sublist.cons) (yv_of_yq rfl (yq_index_slice rfl (by (conv => lhs; whnf) <;> rfl) (by (conv => lhs; whnf) <;> rfl) ts22 ti25 (by decide) (by decide))) ?_
  refine HW.take 39 rfl (by kernel_rfl) (by kernel_rfl) (by kernel_rfl) rfl rfl (by repeat' first | exact List.Sublist.refl _ | exact List.nil_sublist _ | apply List.Sublist.cons) (yv_of_yq rfl (yq_load_hs (i := 4) (v := someH 4 4) rfl (by (conv => lhs; whnf) <;> rfl) ti25 (fun w hw => hsR hw (by repeat' first | exact List.mem_cons_self .. | apply List.mem_cons_of_mem)) rfl)) ?_
  refine HW.take 40 rfl (by kernel_rfl) (by kernel_rfl) (by kernel_rfl) rfl rfl (by repeat' first | exact List.Sublist.refl _ | exact List.nil_sublist _ | apply List.Sublist.cons) (yv_of_yq rfl (yq_move rfl (by (conv => lhs; whnf) <;> rfl))) ?_
  refine HW.take 41 rfl (by kernel_rfl) (by kernel_rfl) (by kernel_rfl) rfl rfl (by repeat' first | exact List.Sublist.refl _ | exact List.nil_sublist _ | apply List.Sublist.cons) (yv_of_yq rfl (yq_loadH rfl (by (conv => lhs; whnf) <;> rfl) ti25 (by repeat' first | exact List.mem_cons_self .. | apply List.mem_cons_of_mem))) ?_
  refine HW.one 42 (by kernel_rfl) rfl ?_
  refine OW.q rfl rfl (yq_call rfl rfl (.cons (by (conv => lhs; whnf) <;> rfl) ( .cons (by (conv => lhs; whnf) <;> rfl) ( .cons (by (conv => lhs; whnf) <;> rfl) ( .cons (by (conv => lhs; whnf) <;> rfl) ( .cons (by (conv => lhs; whnf) <;> rfl) .nil))))) en49 (fun w hw => check_calls (someH 4 4) (rootL (someL 4 5)) 4 5 (pathR (someL 4 5) 4) _ w (by rw [fd_41]; decide) (HsAt.row rfl (hw.own _ (by repeat' first | exact List.mem_cons_self .. | apply List.mem_cons_of_mem))) (Cl_gl0 hw hg))) ?_
  refine OW.nil ⟨rfl, (by repeat' first | exact List.Sublist.refl _ | exact List.nil_sublist _ | apply List.Sublist.cons), ?_⟩
  refine HW.take 43 rfl (by kernel_rfl) (by kernel_rfl) (by kernel_rfl) rfl rfl (by repeat' first | exact List.Sublist.refl _ | exact List.nil_sublist _ | apply List.Sublist.cons) (yv_of_yq rfl ((yq_eql rfl (by (conv => lhs; whnf) <;> rfl) (by (conv => lhs; whnf) <;> rfl)).to (v' := .bool true) (by rw [decide_eq_true fd_c4]))) ?_
  refine HW.take 44 rfl (by kernel_rfl) (by kernel_rfl) (by kernel_rfl) rfl rfl (by repeat' first | exact List.Sublist.refl _ | exact List.nil_sublist _ | apply List.Sublist.cons) (yv_of_yq rfl (yq_pick rfl (by (conv => lhs; whnf) <;> rfl) (by (conv => lhs; whnf) <;> rfl))) ?_
  refine HW.take 45 rfl (by kernel_rfl) (by kernel_rfl) (by kernel_rfl) rfl rfl (by repeat' first | exact List.Sublist.refl _ | exact List.nil_sublist _ | apply List.Sublist.cons) (yv_of_yq rfl (yq_move rfl (by (conv => lhs; whnf) <;> rfl))) ?_
  refine HW.take 46 rfl (by kernel_rfl) (by kernel_rfl) (by kernel_rfl) rfl rfl (by repeat' first | exact List.Sublist.refl _ | exact List.nil_sublist _ | apply List.Sublist.cons) (yv_of_yq rfl (yq_move rfl (by (conv => lhs; whnf) <;> rfl))) ?_
  refine HW.take 47 rfl (by kernel_rfl) (by kernel_rfl) (by kernel_rfl) rfl rfl (by repeat' first | exact List.Sublist.refl _ | exact List.nil_sublist _ | apply List.Sublist.cons) (yv_of_yq rfl (yq_index_slice rfl (by (conv => lhs; whnf) <;> rfl) (by (conv => lhs; whnf) <;> rfl) ts22 ti25 (by decide) (by decide))) ?_
  refine HW.take 48 rfl (by kernel_rfl) (by kernel_rfl) (by kernel_rfl) rfl rfl (by repeat' first | exact List.Sublist.refl _ | exact List.nil_sublist _ | apply List.Sublist.cons) (yv_of_yq rfl (yq_load_hs (i := 2) (v := someH 4 2) rfl (by (conv => lhs; whnf) <;> rfl) ti25 (fun w hw => hsR hw (by repeat' first | exact List.mem_cons_self .. | apply List.mem_cons_of_mem)) rfl)) ?_
  refine HW.take 49 rfl (by kernel_rfl) (by kernel_rfl) (by kernel_rfl) rfl rfl (by repeat' first | exact List.Sublist.refl _ | exact List.nil_sublist _ | apply List.Sublist.cons) (yv_of_yq rfl (yq_move rfl (by (conv => lhs; whnf) <;> rfl))) ?_
  refine HW.take 50 rfl (by kernel_rfl) (by kernel_rfl) (by kernel_rfl) rfl rfl (by repeat' first | exact List.Sublist.refl _ | exact List.nil_sublist _ | apply List.Sublist.cons) (yv_of_yq rfl (yq_loadH rfl (by (conv => lhs; whnf) <;> rfl) ti25 (by repeat' first | exact List.mem_cons_self .. | apply List.mem_cons_of_mem))) ?_
  refine HW.one 51 (by kernel_rfl) rfl ?_
  refine OW.q rfl rfl (yq_call rfl rfl (.cons (by (conv => lhs; whnf) <;> rfl) ( .cons (by (conv => lhs; whnf) <;> rfl) ( .cons (by (conv => lhs; whnf) <;> rfl) ( .cons (by (conv => lhs; whnf) <;> rfl) ( .cons (by (conv => lhs; whnf) <;> rfl) .nil))))) en49 (fun w hw => check_calls (someH 4 2) (rootL (someL 4 5)) 2 5 (pathR (someL 4 5) 4) _ w (by rw [fd_41]; decide) (HsAt.row rfl (hw.own _ (by repeat' first | exact List.mem_cons_self .. | apply List.mem_cons_of_mem))) (Cl_gl0 hw hg))) ?_
  refine OW.nil ⟨rfl, (by repeat' first | exact List.Sublist.refl _ | exact List.nil_sublist _ | apply List.Sublist.cons), ?_⟩
  refine HW.take 52 rfl (by kernel_rfl) (by kernel_rfl) (by kernel_rfl) rfl rfl (by repeat' first | exact List.Sublist.refl _ | exact List.nil_sublist _ | apply List.Sublist.cons) (yv_of_yq rfl ((yq_eql rfl (by (conv => lhs; whnf) <;> rfl) (by (conv => lhs; whnf) <;> rfl)).to (v' := .bool true) (by rw [decide_eq_true fd_c2]))) ?_
  refine HW.take 53 rfl (by kernel_rfl) (by kernel_rfl) (by kernel_rfl) rfl rfl (by repeat' first | exact List.Sublist.refl _ | exact List.nil_sublist _ | apply List.Sublist.cons) (yv_of_yq rfl (yq_pick rfl (by (conv => lhs; whnf) <;> rfl) (by (conv => lhs; whnf) <;> rfl))) ?_
  refine HW.take 54 rfl (by kernel_rfl) (by kernel_rfl) (by kernel_rfl) rfl rfl (by repeat' first | exact List.Sublist.refl _ | exact List.nil_sublist _ | apply List.Sublist.cons) (yv_of_yq rfl (yq_assign rfl (by (conv => lhs; whnf) <;> rfl))) ?_
  refine HW.done (by kernel_rfl) ?_
  refine hK7 _ _ ?_
  refine CW.ret ?_
  -- ret (ret)
  exact fin1 (Or.inr rfl) rfl ⟨by decide, (by (conv => lhs; whnf) <;> rfl)⟩ (fun w hw => ⟨rfl, hw.sub (List.nil_sublist _)⟩)

set_option maxRecDepth 100000 in
set_option maxHeartbeats 1000000 in
theorem pathsPath_calls (v : Value) (l : List Hash) (i : Int) (w : World) (hs : HsAt w v l) (hi1 : -9223372036854775808 ≤ i) (hi2 : i ≤ 9223372036854775807) (hg : GL w) :
    Calls Tryd.prog 7 #[v, .int .i64 i] w fun e w' => e = .returned (.bool true) ∧ Cl w [] [] w' := by
  have hs0 := hs
  obtain ⟨a0, cap0, rfl⟩ := hs0.len
  refine calls_of_CW (L := []) Tryd.func7 rfl (Nat.le_of_ble_eq_true rfl) (Cl.refl _) ?_
  refine CW.seq_k fun K1 hK1 => ?_
  refine CW.region ?_
  refine OW.q rfl rfl (yq_assign rfl (by (conv => lhs; whnf) <;> rfl)) ?_
  refine OW.nil ?_
  refine hK1 _ _ ?_
  refine CW.seq_k fun K2 hK2 => ?_
  refine CW.seq_k fun K3 hK3 => ?_
  refine CW.region ?_
  refine OW.q rfl rfl (yq_move rfl (by (conv => lhs; whnf) <;> rfl)) ?_
  refine OW.q rfl rfl (yq_len_slice rfl ts22 (by (conv => lhs; whnf) <;> rfl)) ?_
  refine OW.q rfl rfl (yq_gtr rfl (by (conv => lhs; whnf) <;> rfl) (by (conv => lhs; whnf) <;> rfl)) ?_
  refine OW.nil ?_
  refine hK3 _ _ ?_
  refine CW.cond_dec (by (conv => lhs; whnf) <;> rfl) (fun hc0 => ?_) (fun hc0 => ?_)
  · refine CW.seq_k fun K4 hK4 => ?_
    refine CW.region ?_
    refine OW.q rfl rfl (yq_call rfl rfl .nil en40 (fun w hw => found_calls w (Cl_gl0 hw hg))) ?_
    refine OW.q rfl rfl (yq_assign rfl (by (conv => lhs; whnf) <;> rfl)) ?_
    refine OW.nil ?_
    refine hK4 _ _ ?_
    refine CW.ret ?_
    refine then_ret ?_
    -- ret (ret)
    exact fin1 (Or.inr rfl) rfl ⟨by decide, (by (conv => lhs; whnf) <;> rfl)⟩ (fun w hw => ⟨rfl, hw.sub (List.nil_sublist _)⟩)
  · have hl80 : l.length ≤ 80 := by omega
    refine CW.skip ?_
    refine hK2 _ _ ?_
    refine CW.seq_k fun K5 hK5 => ?_
    refine CW.seq_k fun K6 hK6 => ?_
    refine CW.region ?_
    refine OW.q rfl rfl (yq_assign rfl (by (conv => lhs; whnf) <;> rfl)) ?_
    refine OW.nil ?_
    refine hK6 _ _ ?_
    refine CW.block ?_
    refine CW.loop (σ := Nat) (fun j ρ L => Has ρ [(0, .slice a0 l.length cap0), (1, .int .i64 i), (5, .int .i64 ((j : Int) - 1))] ∧ j ≤ l.length + 3 ∧ L = []) (fun j => l.length + 3 - j) (0) ?_ ?_
    · exact ⟨Has.mk ⟨(by (conv => lhs; whnf) <;> rfl), (by (conv => lhs; whnf) <;> rfl), (by (conv => lhs; whnf) <;> rfl), trivial⟩, by omega, rfl⟩
    · rintro j _ _ ⟨⟨ρ', rfl⟩, hj, rfl⟩
      refine CW.seq_k fun K7 hK7 => ?_
      refine CW.seq_k fun K8 hK8 => ?_
      refine CW.region ?_
      refine OW.q rfl rfl (yq_move rfl (by (conv => lhs; whnf) <;> rfl)) ?_
      refine OW.q rfl rfl (yq_move rfl (by (conv => lhs; whnf) <;> rfl)) ?_
      refine OW.q rfl rfl (yq_len_slice rfl ts22 (by (conv => lhs; whnf) <;> rfl)) ?_
      refine OW.q rfl rfl (yq_add rfl (by (conv => lhs; whnf) <;> rfl) (by (conv => lhs; whnf) <;> rfl) (by omega)) ?_
      refine OW.q rfl rfl (yq_leq rfl (by (conv => lhs; whnf) <;> rfl) (by (conv => lhs; whnf) <;> rfl)) ?_
      refine OW.nil ?_
      refine hK8 _ _ ?_
      refine CW.cond_dec (by (conv => lhs; whnf) <;> rfl) (fun hc2 => ?_) (fun hc2 => ?_)
      · refine CW.skip ?_
        refine hK7 _ _ ?_
        refine CW.seq_k fun K9 hK9 => ?_
        refine CW.block ?_
        refine CW.seq_k fun K10 hK10 => ?_
        refine CW.region ?_
        refine OW.q rfl rfl (yq_move rfl (by (conv => lhs; whnf) <;> rfl)) ?_
        refine OW.q rfl rfl (yq_assign rfl (by (conv => lhs; whnf) <;> rfl)) ?_
        refine OW.nil ?_
        refine hK10 _ _ ?_
        refine CW.seq_k fun K11 hK11 => ?_
        refine CW.seq_k fun K12 hK12 => ?_
        refine CW.region ?_
        refine OW.q rfl rfl (yq_move rfl (by (conv => lhs; whnf) <;> rfl)) ?_
        refine OW.q rfl rfl (yq_move rfl (by (conv => lhs; whnf) <;> rfl)) ?_
        refine OW.q rfl rfl (yq_len_slice rfl ts22 (by (conv => lhs; whnf) <;> rfl)) ?_
        refine OW.q rfl rfl (yq_add rfl (by (conv => lhs; whnf) <;> rfl) (by (conv => lhs; whnf) <;> rfl) (by omega)) ?_
        refine OW.q rfl rfl (yq_eql rfl (by (conv => lhs; whnf) <;> rfl) (by (conv => lhs; whnf) <;> rfl)) ?_
        refine OW.nil ?_
        refine hK12 _ _ ?_
        refine CW.cutK (fun ρ L => ∃ z : Int, -9223372036854775808 ≤ z ∧ z ≤ 9223372036854775807 ∧ Has ρ [(0, .slice a0 l.length cap0), (1, .int .i64 i), (5, .int .i64 ((j : Int) - 1)), (6, .int .i64 z)] ∧ L = []) ?_ ?_
        · refine CW.cond_dec (by (conv => lhs; whnf) <;> rfl) (fun hc4 => ?_) (fun hc4 => ?_)
          · refine CW.region ?_
            refine OW.q rfl rfl (yq_move rfl (by (conv => lhs; whnf) <;> rfl)) ?_
            refine OW.q rfl rfl (yq_assign rfl (by (conv => lhs; whnf) <;> rfl)) ?_
            refine OW.nil ?_
            exact ⟨i, hi1, hi2, Has.mk ⟨(by (conv => lhs; whnf) <;> rfl), (by (conv => lhs; whnf) <;> rfl), (by (conv => lhs; whnf) <;> rfl), (by (conv => lhs; whnf) <;> rfl), trivial⟩, rfl⟩
          · refine CW.skip ?_
            exact ⟨(j : Int) - 1, by omega, by omega, Has.mk ⟨(by (conv => lhs; whnf) <;> rfl), (by (conv => lhs; whnf) <;> rfl), (by (conv => lhs; whnf) <;> rfl), (by (conv => lhs; whnf) <;> rfl), trivial⟩, rfl⟩
        · rintro _ _ ⟨z, hz1, hz2, ⟨ρ', rfl⟩, rfl⟩
          refine hK11 _ _ ?_
          refine CW.seq_k fun K13 hK13 => ?_
          refine CW.region ?_
          refine OW.q rfl rfl (yq_move rfl (by (conv => lhs; whnf) <;> rfl)) ?_
          refine OW.q rfl rfl (yq_move rfl (by (conv => lhs; whnf) <;> rfl)) ?_
          refine OW.calln rfl rfl rfl (by (conv => lhs; whnf) <;> rfl) (.cons (by (conv => lhs; whnf) <;> rfl) (.cons (by (conv => lhs; whnf) <;> rfl) .nil)) en41 (fun w hw => path_calls _ l z w (hs.mono hw) (by omega) hz1 hz2 (Cl_gl0 hw hg)) ?_
          rintro _ _ ⟨_, rfl, a1, c1, rfl, rfl⟩
          refine OW.q rfl rfl (yq_move rfl (by (conv => lhs; whnf) <;> rfl)) ?_
          refine OW.q rfl rfl (yq_extract rfl (by (conv => lhs; whnf) <;> rfl) rfl) ?_
          refine OW.q rfl rfl (yq_extract rfl (by (conv => lhs; whnf) <;> rfl) rfl) ?_
          refine OW.q rfl rfl (yq_assign rfl (by (conv => lhs; whnf) <;> rfl)) ?_
          refine OW.q rfl rfl (yq_assign rfl (by (conv => lhs; whnf) <;> rfl)) ?_
          refine OW.nil ?_
          refine hK13 _ _ ?_
          refine CW.seq_k fun K14 hK14 => ?_
          refine CW.region ?_
          refine OW.q rfl rfl (yq_move rfl (by (conv => lhs; whnf) <;> rfl)) ?_
          refine OW.q rfl rfl (yq_move rfl (by (conv => lhs; whnf) <;> rfl)) ?_
          refine OW.calln rfl rfl rfl (by (conv => lhs; whnf) <;> rfl) (.cons (by (conv => lhs; whnf) <;> rfl) (.cons (by (conv => lhs; whnf) <;> rfl) .nil)) en42 (fun w hw => rpath_calls l _ z w (by omega) (hs.mono hw) hz1 hz2) ?_
          rintro _ _ ⟨_, rfl, a2, c2, rfl, rfl⟩
          refine OW.q rfl rfl (yq_move rfl (by (conv => lhs; whnf) <;> rfl)) ?_
          refine OW.q rfl rfl (yq_extract rfl (by (conv => lhs; whnf) <;> rfl) rfl) ?_
          refine OW.q rfl rfl (yq_extract rfl (by (conv => lhs; whnf) <;> rfl) rfl) ?_
          refine OW.q rfl rfl (yq_assign rfl (by (conv => lhs; whnf) <;> rfl)) ?_
          refine OW.q rfl rfl (yq_assign rfl (by (conv => lhs; whnf) <;> rfl)) ?_
          refine OW.nil ?_
          refine hK14 _ _ ?_
          refine CW.seq_k fun K15 hK15 => ?_
          refine CW.region ?_
          refine OW.q rfl rfl (yq_move rfl (by (conv => lhs; whnf) <;> rfl)) ?_
          refine OW.q rfl rfl (yq_move rfl (by (conv => lhs; whnf) <;> rfl)) ?_
          refine OW.q rfl rfl ((yq_call rfl rfl (.cons (by (conv => lhs; whnf) <;> rfl) (.cons (by (conv => lhs; whnf) <;> rfl) .nil)) en43 (fun w hw => same_calls (pathR l z) (pathR l z) _ _ w (Nat.le_trans (pathR_length l z) (by omega)) (HsAt.row rfl (hw.own _ (by repeat' first | exact List.mem_cons_self .. | apply List.mem_cons_of_mem))) (HsAt.row rfl (hw.own _ (by repeat' first | exact List.mem_cons_self .. | apply List.mem_cons_of_mem))))).to (v' := .bool true) (by rw [decide_eq_true rfl])) ?_
          refine OW.q rfl rfl (yq_not rfl (by (conv => lhs; whnf) <;> rfl)) ?_
          refine OW.q rfl rfl (yq_move rfl (by (conv => lhs; whnf) <;> rfl)) ?_
          refine OW.q rfl rfl (yq_move rfl (by (conv => lhs; whnf) <;> rfl)) ?_
          refine OW.q rfl rfl (yq_move rfl (by (conv => lhs; whnf) <;> rfl)) ?_
          refine OW.q rfl rfl ((yq_neq rfl (by (conv => lhs; whnf) <;> rfl) (by (conv => lhs; whnf) <;> rfl)).to (v' := .bool false) (by simp)) ?_
          refine OW.q rfl rfl (yq_pick rfl (by (conv => lhs; whnf) <;> rfl) (by (conv => lhs; whnf) <;> rfl)) ?_
          refine OW.nil ?_
          refine hK15 _ _ ?_
          refine CW.cond_f (by (conv => lhs; whnf) <;> rfl) ?_
          refine CW.skip ?_
          refine hK9 _ _ ?_
          refine CW.region ?_
          refine OW.drop (List.nil_sublist _) ?_
          refine OW.q rfl rfl (yq_move rfl (by (conv => lhs; whnf) <;> rfl)) ?_
          refine OW.q rfl rfl (yq_add_e (r := ((j + 1 : Nat) : Int) - 1) rfl (by (conv => lhs; whnf) <;> rfl) (by (conv => lhs; whnf) <;> rfl) (by rw [wrap64_in (by omega)]; omega)) ?_
          refine OW.q rfl rfl (yq_assign rfl (by (conv => lhs; whnf) <;> rfl)) ?_
          refine OW.nil ?_
          exact ⟨j + 1, ⟨Has.mk ⟨(by (conv => lhs; whnf) <;> rfl), (by (conv => lhs; whnf) <;> rfl), (by (conv => lhs; whnf) <;> rfl), trivial⟩, by omega, rfl⟩, by omega⟩
      · refine CW.exit ?_
        refine then_exit ?_
        refine then_exit ?_
        refine blockQ_hit ?_
        refine hK5 _ _ ?_
        refine CW.seq_k fun K16 hK16 => ?_
        refine CW.region ?_
        refine OW.q rfl rfl (yq_call rfl rfl .nil en40 (fun w hw => found_calls w (Cl_gl0 hw hg))) ?_
        refine OW.q rfl rfl (yq_assign rfl (by (conv => lhs; whnf) <;> rfl)) ?_
        refine OW.nil ?_
        refine hK16 _ _ ?_
        refine CW.ret ?_
        -- ret (ret)
        exact fin1 (Or.inr rfl) rfl ⟨by decide, (by (conv => lhs; whnf) <;> rfl)⟩ (fun w hw => ⟨rfl, hw.sub (List.nil_sublist _)⟩)

end Go.Proofs.YtahdekllphehkaaDoor

namespace Go.Proofs.YtahdekllphehkaaDoor
open Go.WL Go.Spec

theorem hsRow {w : World} {a : Option Nat} {cap k : Nat} {T : TypeId} {xs : List Value} {l : List Hash} (hk : k = l.length) (hx : xs = l.flatMap hc) (h : (Ent.row a cap k T 32 xs).ok w) : HsAt w (rowV a k cap) l := by
  subst hx
  exact HsAt.row hk h
theorem pathL_le (l : List Hash) (i j : Nat) (hj : l.length ≤ 2 ^ j) : (pathL l i).length ≤ j := by
  rw [pathL_length _ l i (Nat.le_refl _)]; exact depth_le j i _ hj

set_option maxRecDepth 100000 in
set_option maxHeartbeats 1000000 in
theorem pathsBack_calls (v : Value) (l : List Hash) (h : Hash) (w : World) (hs : HsAt w v l) (hg : GL w) :
    Calls Tryd.prog 10 #[v, HV h] w fun e w' => e = .returned (.bool true) ∧ Cl w [] [] w' := by
  have hs0 := hs
  obtain ⟨a0, cap0, rfl⟩ := hs0.len
  refine calls_of_CW (L := []) Tryd.func10 rfl (Nat.le_of_ble_eq_true rfl) (Cl.refl _) ?_
  refine CW.seq_k fun K1 hK1 => ?_
  refine CW.region ?_
  refine OW.box rfl rfl rfl (by (conv => lhs; whnf) <;> rfl) (by rfl) (fun b3 => ?_)
  refine OW.q rfl rfl (yq_assign rfl (by (conv => lhs; whnf) <;> rfl)) ?_
  refine OW.nil ?_
  refine hK1 _ _ ?_
  refine CW.seq_k fun K2 hK2 => ?_
  refine CW.seq_k fun K3 hK3 => ?_
  refine CW.region ?_
  refine OW.q rfl rfl (yq_move rfl (by (conv => lhs; whnf) <;> rfl)) ?_
  refine OW.q rfl rfl (yq_len_slice rfl ts22 (by (conv => lhs; whnf) <;> rfl)) ?_
  refine OW.q rfl rfl (yq_gtr rfl (by (conv => lhs; whnf) <;> rfl) (by (conv => lhs; whnf) <;> rfl)) ?_
  refine OW.nil ?_
  refine hK3 _ _ ?_
  refine CW.cond_dec (by (conv => lhs; whnf) <;> rfl) (fun hc0 => ?_) (fun hc0 => ?_)
  · refine CW.seq_k fun K4 hK4 => ?_
    refine CW.region ?_
    refine OW.q rfl rfl (yq_call rfl rfl .nil en40 (fun w hw => found_calls w (Cl_gl0 hw hg))) ?_
    refine OW.q rfl rfl (yq_assign rfl (by (conv => lhs; whnf) <;> rfl)) ?_
    refine OW.nil ?_
    refine hK4 _ _ ?_
    refine CW.ret ?_
    refine then_ret ?_
    -- ret (ret)
    exact fin1 (Or.inr rfl) rfl ⟨by decide, (by (conv => lhs; whnf) <;> rfl)⟩ (fun w hw => ⟨rfl, hw.sub (List.nil_sublist _)⟩)
  · have hl60 : l.length ≤ 60 := by omega
    refine CW.skip ?_
    refine hK2 _ _ ?_
    refine CW.seq_k fun K5 hK5 => ?_
    refine CW.region ?_
    refine OW.q rfl rfl (yq_move rfl (by (conv => lhs; whnf) <;> rfl)) ?_
    refine OW.q rfl rfl (yq_call rfl rfl (.cons (by (conv => lhs; whnf) <;> rfl) .nil) en24 (fun w hw => root_calls _ l w (hs.mono hw) (by omega) (Cl_gl0 hw hg))) ?_
    refine OW.alloc rfl rfl rfl tz25 (fun b5 => ?_)
    refine OW.storeH rfl rfl rfl (by (conv => lhs; whnf) <;> rfl) (by (conv => lhs; whnf) <;> rfl) ti25 (by repeat' first | exact Put.head | apply Put.tail) (hc_length _) ?_
    refine OW.nil ?_
    refine hK5 _ _ ?_
    refine CW.seq_k fun K6 hK6 => ?_
    refine CW.seq_k fun K7 hK7 => ?_
    refine CW.region ?_
    refine OW.q rfl rfl (yq_assign rfl (by (conv => lhs; whnf) <;> rfl)) ?_
    refine OW.nil ?_
    refine hK7 _ _ ?_
    refine CW.block ?_
    refine CW.loop (σ := Nat) (fun j ρ L => Has ρ [(0, .slice a0 l.length cap0), (3, .pointer (some ⟨b3, 0, none⟩)), (5, .pointer (some ⟨b5, 0, none⟩)), (6, .int .i64 (j : Int))] ∧ j ≤ l.length ∧ L = [.blk b5 (hc (rootL l)) 25 (0, 0), .blk b3 (hc h) 25 (0, 0)]) (fun j => l.length - j) (0) ?_ ?_
    · exact ⟨Has.mk ⟨(by (conv => lhs; whnf) <;> rfl), (by (conv => lhs; whnf) <;> rfl), (by (conv => lhs; whnf) <;> rfl), (by (conv => lhs; whnf) <;> rfl), trivial⟩, by omega, rfl⟩
    · rintro j _ _ ⟨⟨ρ', rfl⟩, hj, rfl⟩
      refine CW.seq_k fun K8 hK8 => ?_
      refine CW.seq_k fun K9 hK9 => ?_
      refine CW.region ?_
      refine OW.q rfl rfl (yq_move rfl (by (conv => lhs; whnf) <;> rfl)) ?_
      refine OW.q rfl rfl (yq_move rfl (by (conv => lhs; whnf) <;> rfl)) ?_
      refine OW.q rfl rfl (yq_len_slice rfl ts22 (by (conv => lhs; whnf) <;> rfl)) ?_
      refine OW.q rfl rfl (yq_lss rfl (by (conv => lhs; whnf) <;> rfl) (by (conv => lhs; whnf) <;> rfl)) ?_
      refine OW.nil ?_
      refine hK9 _ _ ?_
      refine CW.cond_dec (by (conv => lhs; whnf) <;> rfl) (fun hc2 => ?_) (fun hc2 => ?_)
      · have hlt : j < l.length := by omega
        obtain ⟨b, off, cp, hv, hcp⟩ := hs.place (fun e => by subst e; simp at hlt)
        rw [Value.slice.injEq] at hv
        obtain ⟨rfl, _, rfl⟩ := hv
        refine CW.skip ?_
        refine hK8 _ _ ?_
        refine CW.seq_k fun K10 hK10 => ?_
        refine CW.block ?_
        refine CW.seq_k fun K11 hK11 => ?_
        refine CW.region ?_
        refine OW.q rfl rfl (yq_move rfl (by (conv => lhs; whnf) <;> rfl)) ?_
        refine OW.q rfl rfl (yq_move rfl (by (conv => lhs; whnf) <;> rfl)) ?_
        refine OW.calln rfl rfl rfl (by (conv => lhs; whnf) <;> rfl) (.cons (by (conv => lhs; whnf) <;> rfl) (.cons (by (conv => lhs; whnf) <;> rfl) .nil)) en41 (fun w hw => path_calls _ l (j : Int) w (hs.mono hw) (by omega) (by omega) (by omega) (Cl_gl0 hw hg)) ?_
        rintro _ _ ⟨_, rfl, a1, c1, rfl, rfl⟩
        have hin : ¬ ((j : Int) < 0 ∨ (l.length : Int) ≤ (j : Int)) := by omega
        rw [pathE_ok hin]
        obtain ⟨p, hp⟩ : ∃ p, p = pathR l (j : Int) := ⟨_, rfl⟩
        have hpp : p = pathL l j := by rw [hp, pathR_ok hin]
        have hpn : p.length = depth j l.length := by rw [hpp]; exact pathL_length _ l j (Nat.le_refl _)
        have hp6 : p.length ≤ 6 := by rw [hpp]; exact pathL_le l j 6 (by omega)
        have hk0 : checkL (l.getD j zeroHash) (j : Int) (l.length : Int) p (rootL l) = 0 := by rw [hpp]; exact check_own l j hlt (by omega)
        have hkx : ∀ q : List Hash, q.length ≠ p.length → checkL (l.getD j zeroHash) (j : Int) (l.length : Int) q (rootL l) = 80 := fun q hq => check_len _ _ j l.length q hlt (by omega) (by rw [← hpn]; exact hq)
        rw [← hp]
        refine OW.q rfl rfl (yq_move rfl (by (conv => lhs; whnf) <;> rfl)) ?_
        refine OW.q rfl rfl (yq_extract rfl (by (conv => lhs; whnf) <;> rfl) rfl) ?_
        refine OW.q rfl rfl (yq_extract rfl (by (conv => lhs; whnf) <;> rfl) rfl) ?_
        refine OW.q rfl rfl (yq_assign rfl (by (conv => lhs; whnf) <;> rfl)) ?_
        refine OW.q rfl rfl (yq_assign rfl (by (conv => lhs; whnf) <;> rfl)) ?_
        refine OW.nil ?_
        refine hK11 _ _ ?_
        refine CW.seq_k fun K12 hK12 => ?_
        refine CW.seq_k fun K13 hK13 => ?_
        refine CW.draw mixed (by kernel_rfl) ?_
        refine QW.q rfl rfl (yq_move rfl (by (conv => lhs; whnf) <;> rfl)) ?_
        refine QW.q rfl rfl ((yq_neq rfl (by (conv => lhs; whnf) <;> rfl) (by (conv => lhs; whnf) <;> rfl)).to (v' := .bool false) (by simp)) ?_
        refine QW.q rfl rfl (yq_move rfl (by (conv => lhs; whnf) <;> rfl)) ?_
        refine QW.q rfl rfl (yq_move rfl (by (conv => lhs; whnf) <;> rfl)) ?_
        refine QW.q rfl rfl (yq_len_slice rfl ts22 (by (conv => lhs; whnf) <;> rfl)) ?_
        refine QW.q rfl rfl ((yq_gtr rfl (by (conv => lhs; whnf) <;> rfl) (by (conv => lhs; whnf) <;> rfl)).to (v' := .bool false) (by rw [decide_eq_false (by omega)])) ?_
        refine QW.q rfl rfl (yq_pick rfl (by (conv => lhs; whnf) <;> rfl) (by (conv => lhs; whnf) <;> rfl)) ?_
        refine QW.q rfl rfl (yq_move rfl (by (conv => lhs; whnf) <;> rfl)) ?_
        refine QW.q rfl rfl (yq_move rfl (by (conv => lhs; whnf) <;> rfl)) ?_
        refine QW.q rfl rfl (yq_move rfl (by (conv => lhs; whnf) <;> rfl)) ?_
        refine QW.q rfl rfl (yq_index_slice rfl (by (conv => lhs; whnf) <;> rfl) (by (conv => lhs; whnf) <;> rfl) ts22 ti25 (by omega) (by omega)) ?_
        refine QW.q rfl rfl (yq_load_hs (i := j) (v := l.getD j zeroHash) rfl (by (conv => lhs; whnf) <;> rfl) ti25 (fun w hw => hs.mono hw) (at_of_lt hlt)) ?_
        refine QW.q rfl rfl (yq_move rfl (by (conv => lhs; whnf) <;> rfl)) ?_
        refine QW.q rfl rfl (yq_move rfl (by (conv => lhs; whnf) <;> rfl)) ?_
        refine QW.q rfl rfl (yq_len_slice rfl ts22 (by (conv => lhs; whnf) <;> rfl)) ?_
        refine QW.q rfl rfl (yq_move rfl (by (conv => lhs; whnf) <;> rfl)) ?_
        refine QW.q rfl rfl (yq_loadH rfl (by (conv => lhs; whnf) <;> rfl) ti25 (by repeat' first | exact List.mem_cons_self .. | apply List.mem_cons_of_mem)) ?_
        refine QW.q rfl rfl (yq_call rfl rfl (.cons (by (conv => lhs; whnf) <;> rfl) ( .cons (by (conv => lhs; whnf) <;> rfl) ( .cons (by (conv => lhs; whnf) <;> rfl) ( .cons (by (conv => lhs; whnf) <;> rfl) ( .cons (by (conv => lhs; whnf) <;> rfl) .nil))))) en49 (fun w hw => check_calls (l.getD j zeroHash) (rootL l) (j : Int) (l.length : Int) (p) _ w (by first | omega | (simp; omega)) (HsAt.row rfl (hw.own _ (by repeat' first | exact List.mem_cons_self .. | apply List.mem_cons_of_mem))) (Cl_gl0 hw hg))) ?_
        refine QW.q rfl rfl ((yq_neq rfl (by (conv => lhs; whnf) <;> rfl) (by (conv => lhs; whnf) <;> rfl)).to (v' := .bool false) (by rw [hk0]; simp)) ?_
        refine QW.q rfl rfl (yq_pick rfl (by (conv => lhs; whnf) <;> rfl) (by (conv => lhs; whnf) <;> rfl)) ?_
        refine QW.nil ?_
        refine hK13 _ _ ?_
        refine CW.cond_f (by (conv => lhs; whnf) <;> rfl) ?_
        refine CW.skip ?_
        refine hK12 _ _ ?_
        refine CW.seq_k fun K14 hK14 => ?_
        refine CW.cutR (fun ρ L => ∃ x y, Has ρ [(0, .slice (some ⟨b, off, none⟩) l.length cap0), (3, .pointer (some ⟨b3, 0, none⟩)), (5, .pointer (some ⟨b5, 0, none⟩)), (6, .int .i64 (j : Int)), (7, rowV a1 p.length c1), (61, .bool false)] ∧ L = [x, y, .row a1 c1 p.length 25 32 (p.flatMap hc), .blk b5 (hc (rootL l)) 25 (0, 0), .blk b3 (hc h) 25 (0, 0)]) ?_ ?_
        · refine CW.nilrow 25 32 ?_
          refine CW.held ([.row a1 c1 p.length 25 32 (p.flatMap hc), .blk b5 (hc (rootL l)) 25 (0, 0), .blk b3 (hc h) 25 (0, 0)]) mixed ?_
          refine HW.take 0 rfl (by kernel_rfl) (by kernel_rfl) (by kernel_rfl) rfl rfl (by repeat' first | exact List.Sublist.refl _ | exact List.nil_sublist _ | apply List.Sublist.cons) (yv_of_yq rfl (yq_move rfl (by (conv => lhs; whnf) <;> rfl))) ?_
          refine HW.take 1 rfl (by kernel_rfl) (by kernel_rfl) (by kernel_rfl) rfl rfl (by repeat' first | exact List.Sublist.refl _ | exact List.nil_sublist _ | apply List.Sublist.cons) (yv_of_yq rfl (yq_move rfl (by (conv => lhs; whnf) <;> rfl))) ?_
          refine HW.take 2 rfl (by kernel_rfl) (by kernel_rfl) (by kernel_rfl) rfl rfl (by repeat' first | exact List.Sublist.refl _ | exact List.nil_sublist _ | apply List.Sublist.cons) (yv_of_yq rfl (yq_index_slice rfl (by (conv => lhs; whnf) <;> rfl) (by (conv => lhs; whnf) <;> rfl) ts22 ti25 (by omega) (by omega))) ?_
          refine HW.take 3 rfl (by kernel_rfl) (by kernel_rfl) (by kernel_rfl) rfl rfl (by repeat' first | exact List.Sublist.refl _ | exact List.nil_sublist _ | apply List.Sublist.cons) (yv_of_yq rfl (yq_load_hs (i := j) (v := l.getD j zeroHash) rfl (by (conv => lhs; whnf) <;> rfl) ti25 (fun w hw => hs.mono hw) (at_of_lt hlt))) ?_
          refine HW.take 4 rfl (by kernel_rfl) (by kernel_rfl) (by kernel_rfl) rfl rfl (by repeat' first | exact List.Sublist.refl _ | exact List.nil_sublist _ | apply List.Sublist.cons) (yv_of_yq rfl (yq_move rfl (by (conv => lhs; whnf) <;> rfl))) ?_
          refine HW.take 5 rfl (by kernel_rfl) (by kernel_rfl) (by kernel_rfl) rfl rfl (by repeat' first | exact List.Sublist.refl _ | exact List.nil_sublist _ | apply List.Sublist.cons) (yv_of_yq rfl (yq_move rfl (by (conv => lhs; whnf) <;> rfl))) ?_
          refine HW.take 6 rfl (by kernel_rfl) (by kernel_rfl) (by kernel_rfl) rfl rfl (by repeat' first | exact List.Sublist.refl _ | exact List.nil_sublist _ | apply List.Sublist.cons) (yv_len_slice rfl ts22 (by (conv => lhs; whnf) <;> rfl)) ?_
          refine HW.take 7 rfl (by kernel_rfl) (by kernel_rfl) (by kernel_rfl) rfl rfl (by repeat' first | exact List.Sublist.refl _ | exact List.nil_sublist _ | apply List.Sublist.cons) (yv_of_yq rfl (yq_move rfl (by (conv => lhs; whnf) <;> rfl))) ?_
          refine HW.take 9 rfl (by kernel_rfl) (by kernel_rfl) (by kernel_rfl) rfl rfl (by repeat' first | exact List.Sublist.refl _ | exact List.nil_sublist _ | apply List.Sublist.cons) (yv_of_yq rfl (yq_loadH rfl (by (conv => lhs; whnf) <;> rfl) ti25 (by repeat' first | exact List.mem_cons_self .. | apply List.mem_cons_of_mem))) ?_
          refine HW.take 12 rfl (by kernel_rfl) (by kernel_rfl) (by kernel_rfl) rfl rfl (by repeat' first | exact List.Sublist.refl _ | exact List.nil_sublist _ | apply List.Sublist.cons) (yv_of_yq rfl (yq_loadH rfl (by (conv => lhs; whnf) <;> rfl) ti25 (by repeat' first | exact List.mem_cons_self .. | apply List.mem_cons_of_mem))) ?_
          refine HW.two 8 10 (by kernel_rfl) rfl rfl ?_ ?_
          · refine OW.appendRow (a := none) (cap := 0) (k := 0) rfl rfl rfl (by (conv => lhs; whnf) <;> rfl) (by (conv => lhs; whnf) <;> rfl) ts22 ti25 tz25 (by repeat' first | exact Del.head | apply Del.tail) (by repeat' first | exact List.mem_cons_self .. | apply List.mem_cons_of_mem) (by intro u hu; obtain ⟨x, _, hx⟩ := List.mem_flatMap.1 hu; exact hc_one x u hx) (hc_length _) (by decide) (by simp only [maxLen]; omega) (by omega) (fun a2 c2 => ?_)
            refine OW.nil ⟨rfl, (by repeat' first | exact List.Sublist.refl _ | exact List.nil_sublist _ | apply List.Sublist.cons), ?_⟩
            refine HW.one 10 (by kernel_rfl) rfl ?_
            refine OW.slicelit (vs := [HV h]) rfl rfl rfl rfl ts22 ti25 tz25 (by decide) rfl (by decide) (by simp [HV_cells]) (by decide) (cs := hc h) (by simp [HV_cells]) (fun bl => ?_)
            refine OW.nil ⟨rfl, (by repeat' first | exact List.Sublist.refl _ | exact List.nil_sublist _ | apply List.Sublist.cons), ?_⟩
            refine HW.one 11 (by kernel_rfl) rfl ?_
            refine OW.append (news := hc h) rfl rfl rfl (by (conv => lhs; whnf) <;> rfl) (by (conv => lhs; whnf) <;> rfl) ts22 ti25 tz25 (by repeat' first | exact Del.head | apply Del.tail) (blk_cells (by repeat' first | exact List.mem_cons_self .. | apply List.mem_cons_of_mem)) (by rw [hc_length]) (hc_one _) (hc_length _) (by decide) (by simp only [maxLen]; omega) (by omega) (fun a3 c3 => ?_)
            refine OW.nil ⟨rfl, (by repeat' first | exact List.Sublist.refl _ | exact List.nil_sublist _ | apply List.Sublist.cons), ?_⟩
            refine HW.one 13 (by kernel_rfl) rfl ?_
            refine OW.q rfl rfl (yq_call rfl rfl (.cons (by (conv => lhs; whnf) <;> rfl) ( .cons (by (conv => lhs; whnf) <;> rfl) ( .cons (by (conv => lhs; whnf) <;> rfl) ( .cons (by (conv => lhs; whnf) <;> rfl) ( .cons (by (conv => lhs; whnf) <;> rfl) .nil))))) en49 (fun w hw => check_calls (l.getD j zeroHash) (rootL l) (j : Int) (l.length : Int) (p ++ [h]) _ w (by first | omega | (simp; omega)) (hsRow (by simp) (by rw [List.nil_append, flat_snoc]) (hw.own _ (List.mem_cons_self ..))) (Cl_gl0 hw hg))) ?_
            refine OW.nil ⟨rfl, (by repeat' first | exact List.Sublist.refl _ | exact List.nil_sublist _ | apply List.Sublist.cons), ?_⟩
            refine HW.take 14 rfl (by kernel_rfl) (by kernel_rfl) (by kernel_rfl) rfl rfl (by repeat' first | exact List.Sublist.refl _ | exact List.nil_sublist _ | apply List.Sublist.cons) (yv_of_yq rfl ((yq_neq rfl (by (conv => lhs; whnf) <;> rfl) (by (conv => lhs; whnf) <;> rfl)).to (v' := .bool false) (by rw [hkx _ (by simp)]; simp))) ?_
            refine HW.done (by kernel_rfl) ?_
            exact ⟨rfl, _, _, Has.mk ⟨(by (conv => lhs; whnf) <;> rfl), (by (conv => lhs; whnf) <;> rfl), (by (conv => lhs; whnf) <;> rfl), (by (conv => lhs; whnf) <;> rfl), (by (conv => lhs; whnf) <;> rfl), (by (conv => lhs; whnf) <;> rfl), trivial⟩, rfl⟩
          · refine OW.slicelit (vs := [HV h]) rfl rfl rfl rfl ts22 ti25 tz25 (by decide) rfl (by decide) (by simp [HV_cells]) (by decide) (cs := hc h) (by simp [HV_cells]) (fun bl => ?_)
            refine OW.nil ⟨rfl, (by repeat' first | exact List.Sublist.refl _ | exact List.nil_sublist _ | apply List.Sublist.cons), ?_⟩
            refine HW.one 8 (by kernel_rfl) rfl ?_
            refine OW.appendRow (a := none) (cap := 0) (k := 0) rfl rfl rfl (by (conv => lhs; whnf) <;> rfl) (by (conv => lhs; whnf) <;> rfl) ts22 ti25 tz25 (by repeat' first | exact Del.head | apply Del.tail) (by repeat' first | exact List.mem_cons_self .. | apply List.mem_cons_of_mem) (by intro u hu; obtain ⟨x, _, hx⟩ := List.mem_flatMap.1 hu; exact hc_one x u hx) (hc_length _) (by decide) (by simp only [maxLen]; omega) (by omega) (fun a2 c2 => ?_)
            refine OW.nil ⟨rfl, (by repeat' first | exact List.Sublist.refl _ | exact List.nil_sublist _ | apply List.Sublist.cons), ?_⟩
            refine HW.one 11 (by kernel_rfl) rfl ?_
            refine OW.append (news := hc h) rfl rfl rfl (by (conv => lhs; whnf) <;> rfl) (by (conv => lhs; whnf) <;> rfl) ts22 ti25 tz25 (by repeat' first | exact Del.head | apply Del.tail) (blk_cells (by repeat' first | exact List.mem_cons_self .. | apply List.mem_cons_of_mem)) (by rw [hc_length]) (hc_one _) (hc_length _) (by decide) (by simp only [maxLen]; omega) (by omega) (fun a3 c3 => ?_)
            refine OW.nil ⟨rfl, (by repeat' first | exact List.Sublist.refl _ | exact List.nil_sublist _ | apply List.Sublist.cons), ?_⟩
            refine HW.one 13 (by kernel_rfl) rfl ?_
            refine OW.q rfl rfl (yq_call rfl rfl (.cons (by (conv => lhs; whnf) <;> rfl) ( .cons (by (conv => lhs; whnf) <;> rfl) ( .cons (by (conv => lhs; whnf) <;> rfl) ( .cons (by (conv => lhs; whnf) <;> rfl) ( .cons (by (conv => lhs; whnf) <;> rfl) .nil))))) en49 (fun w hw => check_calls (l.getD j zeroHash) (rootL l) (j : Int) (l.length : Int) (p ++ [h]) _ w (by first | omega | (simp; omega)) (hsRow (by simp) (by rw [List.nil_append, flat_snoc]) (hw.own _ (List.mem_cons_self ..))) (Cl_gl0 hw hg))) ?_
            refine OW.nil ⟨rfl, (by repeat' first | exact List.Sublist.refl _ | exact List.nil_sublist _ | apply List.Sublist.cons), ?_⟩
            refine HW.take 14 rfl (by kernel_rfl) (by kernel_rfl) (by kernel_rfl) rfl rfl (by repeat' first | exact List.Sublist.refl _ | exact List.nil_sublist _ | apply List.Sublist.cons) (yv_of_yq rfl ((yq_neq rfl (by (conv => lhs; whnf) <;> rfl) (by (conv => lhs; whnf) <;> rfl)).to (v' := .bool false) (by rw [hkx _ (by simp)]; simp))) ?_
            refine HW.done (by kernel_rfl) ?_
            exact ⟨rfl, _, _, Has.mk ⟨(by (conv => lhs; whnf) <;> rfl), (by (conv => lhs; whnf) <;> rfl), (by (conv => lhs; whnf) <;> rfl), (by (conv => lhs; whnf) <;> rfl), (by (conv => lhs; whnf) <;> rfl), (by (conv => lhs; whnf) <;> rfl), trivial⟩, rfl⟩
        · rintro _ _ ⟨x, y, ⟨ρ', rfl⟩, rfl⟩
          refine CW.cond_f (by (conv => lhs; whnf) <;> rfl) ?_
          refine CW.skip ?_
          refine hK14 _ _ ?_
          refine CW.seq_k fun K15 hK15 => ?_
          refine CW.know (p.length = 0 ∨ (0 < p.length ∧ ∃ g, a1 = some g ∧ p.length ≤ c1)) (fun w hw => ?_) ?_
          · rcases Nat.eq_zero_or_pos p.length with h0 | h0
            · exact .inl h0
            · obtain ⟨g1, hg1⟩ := know_row (a := a1) (cap := c1) (k := p.length) (T := 25) (s := 32) (xs := p.flatMap hc) (by repeat' first | exact List.mem_cons_self .. | apply List.mem_cons_of_mem) h0 w hw
              refine .inr ⟨h0, g1, hg1, ?_⟩
              subst hg1
              exact hsAt_cap (a := some ⟨g1, 0, none⟩) (n := p.length) (HsAt.row rfl (hw.own (.row (some g1) c1 p.length 25 32 (p.flatMap hc)) (by repeat' first | exact List.mem_cons_self .. | apply List.mem_cons_of_mem)))
          intro hkn
          refine CW.draw mixed (by kernel_rfl) ?_
          rcases hkn with hp0 | ⟨hp0, g1, rfl, hpc⟩
          · refine QW.q rfl rfl (yq_move rfl (by (conv => lhs; whnf) <;> rfl)) ?_
            refine QW.q rfl rfl (yq_len_slice rfl ts22 (by (conv => lhs; whnf) <;> rfl)) ?_
            refine QW.q rfl rfl ((yq_gtr rfl (by (conv => lhs; whnf) <;> rfl) (by (conv => lhs; whnf) <;> rfl)).to (v' := .bool false) (by rw [decide_eq_false (by omega)])) ?_
            refine QW.q rfl rfl (yq_move rfl (by (conv => lhs; whnf) <;> rfl)) ?_
            refine QW.skip rfl rfl ?_
            refine QW.skip rfl rfl ?_
            refine QW.skip rfl rfl ?_
            refine QW.skip rfl rfl ?_
            refine QW.skip rfl rfl ?_
            refine QW.skip rfl rfl ?_
            refine QW.skip rfl rfl ?_
            refine QW.skip rfl rfl ?_
            refine QW.skip rfl rfl ?_
            refine QW.skip rfl rfl ?_
            refine QW.skip rfl rfl ?_
            refine QW.skip rfl rfl ?_
            refine QW.skip rfl rfl ?_
            refine QW.skip rfl rfl ?_
            refine QW.skip rfl rfl ?_
            refine QW.skip rfl rfl ?_
            refine QW.skip rfl rfl ?_
            refine QW.skip rfl rfl ?_
            refine QW.skip rfl rfl ?_
            refine QW.skip rfl rfl ?_
            refine QW.skip rfl rfl ?_
            refine QW.skip rfl rfl ?_
            refine QW.skip rfl rfl ?_
            refine QW.skip rfl rfl ?_
            refine QW.skip rfl rfl ?_
            refine QW.skip rfl rfl ?_
            refine QW.skip rfl rfl ?_
            refine QW.skip rfl rfl ?_
            refine QW.skip rfl rfl ?_
            refine QW.q rfl rfl (yq_pick rfl (by (conv => lhs; whnf) <;> rfl) (by (conv => lhs; whnf) <;> rfl)) ?_
            refine QW.nil ?_
            refine hK15 _ _ ?_
            refine CW.cond_f (by (conv => lhs; whnf) <;> rfl) ?_
            refine CW.skip ?_
            refine hK10 _ _ ?_
            refine CW.region ?_
            refine OW.drop (L' := [.blk b5 (hc (rootL l)) 25 (0, 0), .blk b3 (hc h) 25 (0, 0)]) (by repeat' first | exact List.Sublist.refl _ | apply List.Sublist.cons) ?_
            refine OW.q rfl rfl (yq_move rfl (by (conv => lhs; whnf) <;> rfl)) ?_
            refine OW.q rfl rfl (yq_add rfl (by (conv => lhs; whnf) <;> rfl) (by (conv => lhs; whnf) <;> rfl) (by omega)) ?_
            refine OW.q rfl rfl (yq_assign rfl (by (conv => lhs; whnf) <;> rfl)) ?_
            refine OW.nil ?_
            exact ⟨j + 1, ⟨Has.mk ⟨(by (conv => lhs; whnf) <;> rfl), (by (conv => lhs; whnf) <;> rfl), (by (conv => lhs; whnf) <;> rfl), (by (conv => lhs; whnf) <;> rfl), trivial⟩, by omega, rfl⟩, by omega⟩
          · refine QW.q rfl rfl (yq_move rfl (by (conv => lhs; whnf) <;> rfl)) ?_
            refine QW.q rfl rfl (yq_len_slice rfl ts22 (by (conv => lhs; whnf) <;> rfl)) ?_
            refine QW.q rfl rfl ((yq_gtr rfl (by (conv => lhs; whnf) <;> rfl) (by (conv => lhs; whnf) <;> rfl)).to (v' := .bool true) (by rw [decide_eq_true (by omega)])) ?_
            refine QW.q rfl rfl (yq_move rfl (by (conv => lhs; whnf) <;> rfl)) ?_
            refine QW.q rfl rfl (yq_move rfl (by (conv => lhs; whnf) <;> rfl)) ?_
            refine QW.q rfl rfl (yq_move rfl (by (conv => lhs; whnf) <;> rfl)) ?_
            refine QW.q rfl rfl (yq_index_slice rfl (by (conv => lhs; whnf) <;> rfl) (by (conv => lhs; whnf) <;> rfl) ts22 ti25 (by omega) (by omega)) ?_
            refine QW.q rfl rfl (yq_load_hs (i := j) (v := l.getD j zeroHash) rfl (by (conv => lhs; whnf) <;> rfl) ti25 (fun w hw => hs.mono hw) (at_of_lt hlt)) ?_
            refine QW.q rfl rfl (yq_move rfl (by (conv => lhs; whnf) <;> rfl)) ?_
            refine QW.q rfl rfl (yq_move rfl (by (conv => lhs; whnf) <;> rfl)) ?_
            refine QW.q rfl rfl (yq_len_slice rfl ts22 (by (conv => lhs; whnf) <;> rfl)) ?_
            refine QW.q rfl rfl (yq_move rfl (by (conv => lhs; whnf) <;> rfl)) ?_
            refine QW.q rfl rfl (yq_slice_slice (b := g1) (off := 0) (len := p.length) (cap := c1) (l := 1) (h := p.length) rfl (by (conv => lhs; whnf) <;> rfl) ts22 ti25 ⟨_, _, (by (conv => lhs; whnf) <;> rfl), by omega, by omega⟩ rfl (by omega) (by omega)) ?_
            refine QW.q rfl rfl (yq_loadH rfl (by (conv => lhs; whnf) <;> rfl) ti25 (by repeat' first | exact List.mem_cons_self .. | apply List.mem_cons_of_mem)) ?_
            refine QW.q rfl rfl (yq_call rfl rfl (.cons (by (conv => lhs; whnf) <;> rfl) ( .cons (by (conv => lhs; whnf) <;> rfl) ( .cons (by (conv => lhs; whnf) <;> rfl) ( .cons (by (conv => lhs; whnf) <;> rfl) ( .cons (by (conv => lhs; whnf) <;> rfl) .nil))))) en49 (fun w hw => check_calls (l.getD j zeroHash) (rootL l) (j : Int) (l.length : Int) (p.drop 1) _ w (by first | omega | (simp; omega)) (sliceD (l := p) (HsAt.row (a := some g1) (cap := c1) rfl (hw.own _ (by repeat' first | exact List.mem_cons_self .. | apply List.mem_cons_of_mem))) 1 (by omega)) (Cl_gl0 hw hg))) ?_
            refine QW.q rfl rfl ((yq_neq rfl (by (conv => lhs; whnf) <;> rfl) (by (conv => lhs; whnf) <;> rfl)).to (v' := .bool false) (by rw [hkx _ (by simp; omega)]; simp)) ?_
            refine QW.q rfl rfl (yq_move rfl (by (conv => lhs; whnf) <;> rfl)) ?_
            refine QW.q rfl rfl (yq_move rfl (by (conv => lhs; whnf) <;> rfl)) ?_
            refine QW.q rfl rfl (yq_move rfl (by (conv => lhs; whnf) <;> rfl)) ?_
            refine QW.q rfl rfl (yq_index_slice rfl (by (conv => lhs; whnf) <;> rfl) (by (conv => lhs; whnf) <;> rfl) ts22 ti25 (by omega) (by omega)) ?_
            refine QW.q rfl rfl (yq_load_hs (i := j) (v := l.getD j zeroHash) rfl (by (conv => lhs; whnf) <;> rfl) ti25 (fun w hw => hs.mono hw) (at_of_lt hlt)) ?_
            refine QW.q rfl rfl (yq_move rfl (by (conv => lhs; whnf) <;> rfl)) ?_
            refine QW.q rfl rfl (yq_move rfl (by (conv => lhs; whnf) <;> rfl)) ?_
            refine QW.q rfl rfl (yq_len_slice rfl ts22 (by (conv => lhs; whnf) <;> rfl)) ?_
            refine QW.q rfl rfl (yq_move rfl (by (conv => lhs; whnf) <;> rfl)) ?_
            refine QW.q rfl rfl (yq_move rfl (by (conv => lhs; whnf) <;> rfl)) ?_
            refine QW.q rfl rfl (yq_len_slice rfl ts22 (by (conv => lhs; whnf) <;> rfl)) ?_
            refine QW.q rfl rfl (yq_sub_e (r := ((p.length - 1 : Nat) : Int)) rfl (by (conv => lhs; whnf) <;> rfl) (by (conv => lhs; whnf) <;> rfl) (by rw [wrap64_in (by omega)]; omega)) ?_
            refine QW.q rfl rfl (yq_slice_slice (b := g1) (off := 0) (len := p.length) (cap := c1) (l := 0) (h := p.length - 1) rfl (by (conv => lhs; whnf) <;> rfl) ts22 ti25 rfl ⟨_, _, (by (conv => lhs; whnf) <;> rfl), by omega, by omega⟩ (by omega) (by omega)) ?_
            refine QW.q rfl rfl (yq_loadH rfl (by (conv => lhs; whnf) <;> rfl) ti25 (by repeat' first | exact List.mem_cons_self .. | apply List.mem_cons_of_mem)) ?_
            refine QW.q rfl rfl (yq_call rfl rfl (.cons (by (conv => lhs; whnf) <;> rfl) ( .cons (by (conv => lhs; whnf) <;> rfl) ( .cons (by (conv => lhs; whnf) <;> rfl) ( .cons (by (conv => lhs; whnf) <;> rfl) ( .cons (by (conv => lhs; whnf) <;> rfl) .nil))))) en49 (fun w hw => check_calls (l.getD j zeroHash) (rootL l) (j : Int) (l.length : Int) (p.take (p.length - 1)) _ w (by first | omega | (simp; omega)) (sliceT (l := p) (HsAt.row (a := some g1) (cap := c1) rfl (hw.own _ (by repeat' first | exact List.mem_cons_self .. | apply List.mem_cons_of_mem))) (p.length - 1) (by omega)) (Cl_gl0 hw hg))) ?_
            refine QW.q rfl rfl ((yq_neq rfl (by (conv => lhs; whnf) <;> rfl) (by (conv => lhs; whnf) <;> rfl)).to (v' := .bool false) (by rw [hkx _ (by simp; omega)]; simp)) ?_
            refine QW.q rfl rfl (yq_pick rfl (by (conv => lhs; whnf) <;> rfl) (by (conv => lhs; whnf) <;> rfl)) ?_
            refine QW.q rfl rfl (yq_pick rfl (by (conv => lhs; whnf) <;> rfl) (by (conv => lhs; whnf) <;> rfl)) ?_
            refine QW.nil ?_
            refine hK15 _ _ ?_
            refine CW.cond_f (by (conv => lhs; whnf) <;> rfl) ?_
            refine CW.skip ?_
            refine hK10 _ _ ?_
            refine CW.region ?_
            refine OW.drop (L' := [.blk b5 (hc (rootL l)) 25 (0, 0), .blk b3 (hc h) 25 (0, 0)]) (by repeat' first | exact List.Sublist.refl _ | apply List.Sublist.cons) ?_
            refine OW.q rfl rfl (yq_move rfl (by (conv => lhs; whnf) <;> rfl)) ?_
            refine OW.q rfl rfl (yq_add rfl (by (conv => lhs; whnf) <;> rfl) (by (conv => lhs; whnf) <;> rfl) (by omega)) ?_
            refine OW.q rfl rfl (yq_assign rfl (by (conv => lhs; whnf) <;> rfl)) ?_
            refine OW.nil ?_
            exact ⟨j + 1, ⟨Has.mk ⟨(by (conv => lhs; whnf) <;> rfl), (by (conv => lhs; whnf) <;> rfl), (by (conv => lhs; whnf) <;> rfl), (by (conv => lhs; whnf) <;> rfl), trivial⟩, by omega, rfl⟩, by omega⟩
      · refine CW.exit ?_
        refine then_exit ?_
        refine then_exit ?_
        refine blockQ_hit ?_
        refine hK6 _ _ ?_
        refine CW.seq_k fun K16 hK16 => ?_
        refine CW.region ?_
        refine OW.q rfl rfl (yq_call rfl rfl .nil en40 (fun w hw => found_calls w (Cl_gl0 hw hg))) ?_
        refine OW.q rfl rfl (yq_assign rfl (by (conv => lhs; whnf) <;> rfl)) ?_
        refine OW.nil ?_
        refine hK16 _ _ ?_
        refine CW.ret ?_
        -- ret (ret)
        exact fin1 (Or.inr rfl) rfl ⟨by decide, (by (conv => lhs; whnf) <;> rfl)⟩ (fun w hw => ⟨rfl, hw.sub (List.nil_sublist _)⟩)

end Go.Proofs.YtahdekllphehkaaDoor

namespace Go.Proofs.YtahdekllphehkaaDoor
open Go.WL Go.Spec

theorem spl_flat0 {l : List Hash} {k : Nat} (h : k < l.length) (x : Hash) : spl (l.flatMap hc) (0 + k * 32) (hc x) = (l.set k x).flatMap hc := by rw [Nat.zero_add]; exact spl_flat h x

set_option maxRecDepth 100000 in
set_option maxHeartbeats 2000000 in
theorem pathsCheck_calls (cl cr o : Hash) (I N : Int) (path : List Hash) (v : Value) (w : World) (hs : HsAt w v path) (hI1 : -9223372036854775808 ≤ I) (hI2 : I ≤ 9223372036854775807) (hN1 : -9223372036854775808 ≤ N) (hN2 : N ≤ 9223372036854775807) (hg : GL w) :
    Calls Tryd.prog 9 #[.agg (hc cl ++ (hc cr ++ [Value.int .i64 I, Value.int .i64 N])).toArray, v, HV o] w fun e w' => e = .returned (.bool true) ∧ Cl w [] [] w' := by
  have hs0 := hs
  obtain ⟨a0, cap0, rfl⟩ := hs0.len
  have hA0 : ∀ (j : Nat) (u : Value), (hc cl)[j]? = some u → (hc cl ++ (hc cr ++ [Value.int .i64 I, Value.int .i64 N]))[0 + 0 + j]? = some u := fun j u hu => by
    have hj : j < (hc cl).length := by
      rcases Nat.lt_or_ge j (hc cl).length with h | h
      · exact h
      · rw [List.getElem?_eq_none h] at hu; cases hu
    rw [show 0 + 0 + j = j by omega, List.getElem?_append_left hj]; exact hu
  have hA1 : ∀ (j : Nat) (u : Value), (hc cr)[j]? = some u → (hc cl ++ (hc cr ++ [Value.int .i64 I, Value.int .i64 N]))[0 + 32 + j]? = some u := fun j u hu => by
    have hj : j < (hc cr).length := by
      rcases Nat.lt_or_ge j (hc cr).length with h | h
      · exact h
      · rw [List.getElem?_eq_none h] at hu; cases hu
    rw [show 0 + 32 + j = (hc cl).length + j by have := hc_length cl; omega, List.getElem?_append_right (by omega), Nat.add_sub_cancel_left, List.getElem?_append_left hj]; exact hu
  have hI : (hc cl ++ (hc cr ++ [Value.int .i64 I, Value.int .i64 N]))[0 + 64]? = some (.int .i64 I) := by
    rw [List.getElem?_append_right (by rw [hc_length]; decide), List.getElem?_append_right (by rw [hc_length, hc_length]; decide), hc_length, hc_length]; rfl
  have hN : (hc cl ++ (hc cr ++ [Value.int .i64 I, Value.int .i64 N]))[0 + 65]? = some (.int .i64 N) := by
    rw [List.getElem?_append_right (by rw [hc_length]; decide), List.getElem?_append_right (by rw [hc_length, hc_length]; decide), hc_length, hc_length]; rfl
  have hCl : (hc cl ++ (hc cr ++ [Value.int .i64 I, Value.int .i64 N])).length = 66 := by rw [List.length_append, List.length_append, hc_length, hc_length]; rfl
  obtain ⟨n0, hn0⟩ : ∃ n0 : Nat, 1 + N % 4096 = (n0 : Int) := ⟨(1 + N % 4096).toNat, by omega⟩
  obtain ⟨i0, hi0⟩ : ∃ i0 : Nat, I % 4096 % (n0 : Int) = (i0 : Int) := ⟨(I % 4096 % (n0 : Int)).toNat, by have := Int.emod_nonneg (I % 4096) (show (n0 : Int) ≠ 0 by omega); omega⟩
  have hin0 : i0 < n0 := by have := Int.emod_lt_of_pos (I % 4096) (show (0 : Int) < n0 by omega); omega
  obtain ⟨sd, hsd⟩ : ∃ sd : UInt8, sd = UInt8.ofNat (I % 256).toNat := ⟨_, rfl⟩
  have hsdn : IntKind.u8.wrap I = (sd.toNat : Int) := by
    rw [wrap_u8, hsd]
    have : (I % 256).toNat < 256 := by omega
    simp only [UInt8.toNat_ofNat', Nat.mod_eq_of_lt this] <;> omega
  have hbN : bitsOf .and .i64 N 4095 = N % 4096 := bitsOf_low 12 (by decide) N hN1 hN2
  have hbI : bitsOf .and .i64 I 4095 = I % 4096 := bitsOf_low 12 (by decide) I hI1 hI2
  refine calls_of_CW (L := []) Tryd.func9 rfl (Nat.le_of_ble_eq_true rfl) (Cl.refl _) ?_
  refine CW.seq_k fun K1 hK1 => ?_
  refine CW.region ?_
  refine OW.box (cs := hc cl ++ (hc cr ++ [Value.int .i64 I, Value.int .i64 N])) rfl rfl rfl (by (conv => lhs; whnf) <;> rfl) rfl (fun b3 => ?_)
  refine OW.box rfl rfl rfl (by (conv => lhs; whnf) <;> rfl) (by rfl) (fun b5 => ?_)
  refine OW.q rfl rfl (yq_assign rfl (by (conv => lhs; whnf) <;> rfl)) ?_
  refine OW.nil ?_
  refine hK1 _ _ ?_
  refine CW.seq_k fun K2 hK2 => ?_
  refine CW.seq_k fun K3 hK3 => ?_
  refine CW.region ?_
  refine OW.q rfl rfl (yq_move rfl (by (conv => lhs; whnf) <;> rfl)) ?_
  refine OW.q rfl rfl (yq_len_slice rfl ts22 (by (conv => lhs; whnf) <;> rfl)) ?_
  refine OW.q rfl rfl (yq_gtr rfl (by (conv => lhs; whnf) <;> rfl) (by (conv => lhs; whnf) <;> rfl)) ?_
  refine OW.nil ?_
  refine hK3 _ _ ?_
  refine CW.cond_dec (by (conv => lhs; whnf) <;> rfl) (fun hc0 => ?_) (fun hc0 => ?_)
  · refine CW.seq_k fun K4 hK4 => ?_
    refine CW.region ?_
    refine OW.q rfl rfl (yq_call rfl rfl .nil en40 (fun w hw => found_calls w (Cl_gl0 hw hg))) ?_
    refine OW.q rfl rfl (yq_assign rfl (by (conv => lhs; whnf) <;> rfl)) ?_
    refine OW.nil ?_
    refine hK4 _ _ ?_
    refine CW.ret ?_
    refine then_ret ?_
    -- ret (ret)
    exact fin1 (Or.inr rfl) rfl ⟨by decide, (by (conv => lhs; whnf) <;> rfl)⟩ (fun w hw => ⟨rfl, hw.sub (List.nil_sublist _)⟩)
  · have hl80 : path.length ≤ 80 := by omega
    refine CW.skip ?_
    refine hK2 _ _ ?_
    refine CW.seq_k fun K5 hK5 => ?_
    refine CW.seq_k fun K6 hK6 => ?_
    refine CW.draw mixed (by kernel_rfl) ?_
    refine QW.q rfl rfl (yq_fieldAddr rfl (by (conv => lhs; whnf) <;> rfl) tf76_0 ti25) ?_
    refine QW.q rfl rfl ((yq_loadA (vs := hc cl) rfl (by (conv => lhs; whnf) <;> rfl) (by rw [hc_length]; exact ti25) (by repeat' first | exact List.mem_cons_self .. | apply List.mem_cons_of_mem) hA0)) ?_
    refine QW.q rfl rfl (yq_fieldAddr rfl (by (conv => lhs; whnf) <;> rfl) tf76_2 ti3) ?_
    refine QW.q rfl rfl ((yq_load1 rfl (by (conv => lhs; whnf) <;> rfl) ti3 (by repeat' first | exact List.mem_cons_self .. | apply List.mem_cons_of_mem) hI)) ?_
    refine QW.q rfl rfl (yq_fieldAddr rfl (by (conv => lhs; whnf) <;> rfl) tf76_3 ti3) ?_
    refine QW.q rfl rfl ((yq_load1 rfl (by (conv => lhs; whnf) <;> rfl) ti3 (by repeat' first | exact List.mem_cons_self .. | apply List.mem_cons_of_mem) hN)) ?_
    refine QW.q rfl rfl (yq_move rfl (by (conv => lhs; whnf) <;> rfl)) ?_
    refine QW.q rfl rfl (yq_fieldAddr rfl (by (conv => lhs; whnf) <;> rfl) tf76_1 ti25) ?_
    refine QW.q rfl rfl ((yq_loadA (vs := hc cr) rfl (by (conv => lhs; whnf) <;> rfl) (by rw [hc_length]; exact ti25) (by repeat' first | exact List.mem_cons_self .. | apply List.mem_cons_of_mem) hA1)) ?_
    refine QW.q rfl rfl (yq_call rfl rfl (.cons (by (conv => lhs; whnf) <;> rfl) ( .cons (by (conv => lhs; whnf) <;> rfl) ( .cons (by (conv => lhs; whnf) <;> rfl) ( .cons (by (conv => lhs; whnf) <;> rfl) ( .cons (by (conv => lhs; whnf) <;> rfl) .nil))))) en49 (fun w hw => check_calls (cl) (cr) (I) (N) (path) _ w (by first | omega | (simp; omega)) (hs.mono hw) (Cl_gl0 hw hg))) ?_
    refine QW.q rfl rfl (yq_fieldAddr rfl (by (conv => lhs; whnf) <;> rfl) tf76_0 ti25) ?_
    refine QW.q rfl rfl ((yq_loadA (vs := hc cl) rfl (by (conv => lhs; whnf) <;> rfl) (by rw [hc_length]; exact ti25) (by repeat' first | exact List.mem_cons_self .. | apply List.mem_cons_of_mem) hA0)) ?_
    refine QW.q rfl rfl (yq_fieldAddr rfl (by (conv => lhs; whnf) <;> rfl) tf76_2 ti3) ?_
    refine QW.q rfl rfl ((yq_load1 rfl (by (conv => lhs; whnf) <;> rfl) ti3 (by repeat' first | exact List.mem_cons_self .. | apply List.mem_cons_of_mem) hI)) ?_
    refine QW.q rfl rfl (yq_fieldAddr rfl (by (conv => lhs; whnf) <;> rfl) tf76_3 ti3) ?_
    refine QW.q rfl rfl ((yq_load1 rfl (by (conv => lhs; whnf) <;> rfl) ti3 (by repeat' first | exact List.mem_cons_self .. | apply List.mem_cons_of_mem) hN)) ?_
    refine QW.q rfl rfl (yq_move rfl (by (conv => lhs; whnf) <;> rfl)) ?_
    refine QW.q rfl rfl (yq_fieldAddr rfl (by (conv => lhs; whnf) <;> rfl) tf76_1 ti25) ?_
    refine QW.q rfl rfl ((yq_loadA (vs := hc cr) rfl (by (conv => lhs; whnf) <;> rfl) (by rw [hc_length]; exact ti25) (by repeat' first | exact List.mem_cons_self .. | apply List.mem_cons_of_mem) hA1)) ?_
    refine QW.q rfl rfl (yq_call rfl rfl (.cons (by (conv => lhs; whnf) <;> rfl) ( .cons (by (conv => lhs; whnf) <;> rfl) ( .cons (by (conv => lhs; whnf) <;> rfl) ( .cons (by (conv => lhs; whnf) <;> rfl) ( .cons (by (conv => lhs; whnf) <;> rfl) .nil))))) en50 (fun w hw => rcheck_calls (cl) (cr) (I) (N) (path) _ w (by first | omega | (simp; omega)) (hs.mono hw))) ?_
    refine QW.q rfl rfl ((yq_neq rfl (by (conv => lhs; whnf) <;> rfl) (by (conv => lhs; whnf) <;> rfl)).to (v' := .bool false) (by simp)) ?_
    refine QW.nil ?_
    refine hK6 _ _ ?_
    refine CW.cond_f (by (conv => lhs; whnf) <;> rfl) ?_
    refine CW.skip ?_
    refine hK5 _ _ ?_
    refine CW.seq_k fun K7 hK7 => ?_
    refine CW.region ?_
    refine OW.q rfl rfl (yq_fieldAddr rfl (by (conv => lhs; whnf) <;> rfl) tf76_3 ti3) ?_
    refine OW.q rfl rfl ((yq_load1 rfl (by (conv => lhs; whnf) <;> rfl) ti3 (by repeat' first | exact List.mem_cons_self .. | apply List.mem_cons_of_mem) hN)) ?_
    refine OW.q rfl rfl (yq_and_e (r := N % 4096) rfl (by (conv => lhs; whnf) <;> rfl) (by (conv => lhs; whnf) <;> rfl) hbN) ?_
    refine OW.q rfl rfl (yq_add_e (r := (n0 : Int)) rfl (by (conv => lhs; whnf) <;> rfl) (by (conv => lhs; whnf) <;> rfl) (by rw [wrap64_in (by omega)]; exact hn0)) ?_
    refine OW.q rfl rfl (yq_assign rfl (by (conv => lhs; whnf) <;> rfl)) ?_
    refine OW.nil ?_
    refine hK7 _ _ ?_
    refine CW.seq_k fun K8 hK8 => ?_
    refine CW.region ?_
    refine OW.q rfl rfl (yq_fieldAddr rfl (by (conv => lhs; whnf) <;> rfl) tf76_2 ti3) ?_
    refine OW.q rfl rfl ((yq_load1 rfl (by (conv => lhs; whnf) <;> rfl) ti3 (by repeat' first | exact List.mem_cons_self .. | apply List.mem_cons_of_mem) hI)) ?_
    refine OW.q rfl rfl (yq_and_e (r := I % 4096) rfl (by (conv => lhs; whnf) <;> rfl) (by (conv => lhs; whnf) <;> rfl) hbI) ?_
    refine OW.q rfl rfl (yq_move rfl (by (conv => lhs; whnf) <;> rfl)) ?_
    refine OW.q rfl rfl ((yq_rem rfl (by (conv => lhs; whnf) <;> rfl) (by (conv => lhs; whnf) <;> rfl) (by omega)).to (v' := .int .i64 (i0 : Int)) (by rw [hi0])) ?_
    refine OW.q rfl rfl (yq_assign rfl (by (conv => lhs; whnf) <;> rfl)) ?_
    refine OW.nil ?_
    refine hK8 _ _ ?_
    refine CW.seq_k fun K9 hK9 => ?_
    refine CW.region ?_
    refine OW.q rfl rfl (yq_move rfl (by (conv => lhs; whnf) <;> rfl)) ?_
    refine OW.q rfl rfl (yq_fieldAddr rfl (by (conv => lhs; whnf) <;> rfl) tf76_2 ti3) ?_
    refine OW.q rfl rfl ((yq_load1 rfl (by (conv => lhs; whnf) <;> rfl) ti3 (by repeat' first | exact List.mem_cons_self .. | apply List.mem_cons_of_mem) hI)) ?_
    refine OW.q rfl rfl (yq_conv_int (r := (sd.toNat : Int)) rfl Tryd.underlying3 Tryd.underlying5 (by (conv => lhs; whnf) <;> rfl) hsdn) ?_
    refine OW.calln rfl rfl rfl (by (conv => lhs; whnf) <;> rfl) (.cons (by (conv => lhs; whnf) <;> rfl) (.cons (by (conv => lhs; whnf) <;> rfl) .nil)) en26 (fun w hw => some_calls n0 sd w (by omega)) ?_
    rintro _ _ ⟨a, cap, rfl, rfl⟩
    refine OW.know _ (know_row (List.mem_cons_self ..) (by omega)) ?_
    rintro ⟨g, rfl⟩
    have hsl := someL_length sd n0
    refine OW.know (n0 ≤ cap) (fun w1 hw1 => by have := hsAt_cap (a := some ⟨g, 0, none⟩) (n := n0) (HsAt.row (l := someL sd n0) hsl.symm (hw1.own _ (List.mem_cons_self ..))); rwa [hsl] at this) ?_
    intro hcap
    refine OW.q rfl rfl (yq_assign rfl (by (conv => lhs; whnf) <;> rfl)) ?_
    refine OW.nil ?_
    refine hK9 _ _ ?_
    refine CW.seq_k fun K10 hK10 => ?_
    refine CW.seq_k fun K11 hK11 => ?_
    refine CW.region ?_
    refine OW.q rfl rfl (yq_move rfl (by (conv => lhs; whnf) <;> rfl)) ?_
    refine OW.q rfl rfl (yq_gtr rfl (by (conv => lhs; whnf) <;> rfl) (by (conv => lhs; whnf) <;> rfl)) ?_
    refine OW.nil ?_
    refine hK11 _ _ ?_
    refine CW.cutK (fun ρ L => ∃ (l : List Hash) (g off cp n i : Nat) (y : Ent), Has ρ [(1, .slice a0 path.length cap0), (3, .pointer (some ⟨b3, 0, none⟩)), (5, .pointer (some ⟨b5, 0, none⟩)), (7, .int .i64 (n : Int)), (8, .int .i64 (i : Int)), (9, .slice (some ⟨g, off, none⟩) l.length cp)] ∧ l.length = n ∧ n ≤ cp ∧ 1 ≤ n ∧ n ≤ 300 ∧ i < n ∧ (∀ (L2 : List Ent) (w1 : World), Cl w [] L2 w1 → y ∈ L2 → HsAt w1 (.slice (some ⟨g, off, none⟩) l.length cp) l) ∧ L = [y, .blk b5 (hc o) 25 (0, 0), .blk b3 (hc cl ++ (hc cr ++ [Value.int .i64 I, Value.int .i64 N])) 76 (0, 0)]) ?_ ?_
    · refine CW.cond_dec (by (conv => lhs; whnf) <;> rfl) (fun hc2 => ?_) (fun hc2 => ?_)
      · refine CW.seq_k fun K12 hK12 => ?_
        refine CW.region ?_
        refine OW.q rfl rfl (yq_move rfl (by (conv => lhs; whnf) <;> rfl)) ?_
        refine OW.q rfl rfl (yq_slice_slice (b := g) (off := 0) (len := n0) (cap := cap) (l := 0) (h := 300) rfl (by (conv => lhs; whnf) <;> rfl) ts22 ti25 rfl ⟨_, _, (by (conv => lhs; whnf) <;> rfl), by omega, by omega⟩ (by omega) (by omega)) ?_
        refine OW.q rfl rfl (yq_assign rfl (by (conv => lhs; whnf) <;> rfl)) ?_
        refine OW.nil ?_
        refine hK12 _ _ ?_
        refine CW.region ?_
        refine OW.q rfl rfl (yq_move rfl (by (conv => lhs; whnf) <;> rfl)) ?_
        refine OW.q rfl rfl ((yq_rem rfl (by (conv => lhs; whnf) <;> rfl) (by (conv => lhs; whnf) <;> rfl) (by omega)).to (v' := .int .i64 ((i0 % 300 : Nat) : Int)) (by rw [Int.natCast_emod]; rfl)) ?_
        refine OW.q rfl rfl (yq_assign rfl (by (conv => lhs; whnf) <;> rfl)) ?_
        refine OW.q rfl rfl (yq_assign rfl (by (conv => lhs; whnf) <;> rfl)) ?_
        refine OW.nil ?_
        have hlt300 : ((someL sd n0).take 300).length = 300 := by rw [List.length_take]; omega
        refine ⟨(someL sd n0).take 300, g, if cap = 0 then 0 else 0 + 0 * 32, cap - 0, 300, i0 % 300, _, Has.mk ⟨(by (conv => lhs; whnf) <;> rfl), (by (conv => lhs; whnf) <;> rfl), (by (conv => lhs; whnf) <;> rfl), (by (conv => lhs; whnf) <;> rfl), (by (conv => lhs; whnf) <;> rfl), by rw [hlt300]; exact (by (conv => lhs; whnf) <;> rfl), trivial⟩, hlt300, by omega, by decide, by decide, Nat.mod_lt _ (by decide), fun L2 w1 hw1 hm => ?_, rfl⟩
        have h1 : HsAt w1 (rowV (some g) n0 cap) (someL sd n0) := HsAt.row hsl.symm (hw1.own _ hm)
        have h2 := sliceT (b := g) (off := 0) (cap := cap) (by rw [hsl]; exact h1) 300 (by omega)
        rw [hlt300]
        exact h2
      · refine CW.skip ?_
        exact ⟨someL sd n0, g, 0, cap, n0, i0, _, Has.mk ⟨(by (conv => lhs; whnf) <;> rfl), (by (conv => lhs; whnf) <;> rfl), (by (conv => lhs; whnf) <;> rfl), (by (conv => lhs; whnf) <;> rfl), (by (conv => lhs; whnf) <;> rfl), by rw [hsl]; exact (by (conv => lhs; whnf) <;> rfl), trivial⟩, hsl, hcap, by omega, by omega, hin0, fun L2 w1 hw1 hm => by rw [hsl]; exact HsAt.row hsl.symm (hw1.own _ hm), rfl⟩
    · rintro _ _ ⟨l, g, off, cp, n, i, y, ⟨ρ', rfl⟩, hln, hcp, hn1, hn300, hin, hsR0, rfl⟩
      have hsR : ∀ {L2 : List Ent} {w1 : World}, Cl w [] L2 w1 → y ∈ L2 → HsAt w1 (.slice (some ⟨g, off, none⟩) l.length cp) l := fun h1 h2 => hsR0 _ _ h1 h2
      have hlt : i < l.length := by omega
      refine hK10 _ _ ?_
      refine CW.seq_k fun K13 hK13 => ?_
      refine CW.region ?_
      refine OW.q rfl rfl (yq_move rfl (by (conv => lhs; whnf) <;> rfl)) ?_
      refine OW.q rfl rfl (yq_move rfl (by (conv => lhs; whnf) <;> rfl)) ?_
      refine OW.calln rfl rfl rfl (by (conv => lhs; whnf) <;> rfl) (.cons (by (conv => lhs; whnf) <;> rfl) (.cons (by (conv => lhs; whnf) <;> rfl) .nil)) en42 (fun w hw => rpath_calls l _ (i : Int) w (by omega) (hsR hw (by repeat' first | exact List.mem_cons_self .. | apply List.mem_cons_of_mem)) (by omega) (by omega)) ?_
      rintro _ _ ⟨_, rfl, a1, c1, rfl, rfl⟩
      have hbad : ¬ ((i : Int) < 0 ∨ (l.length : Int) ≤ (i : Int)) := by omega
      rw [pathE_ok hbad]
      obtain ⟨p, hp⟩ : ∃ p, p = pathR l (i : Int) := ⟨_, rfl⟩
      have hpp : p = pathL l i := by rw [hp, pathR_ok hbad]
      have hp9 : p.length ≤ 9 := by rw [hpp]; exact pathL_le l i 9 (by omega)
      have hk0 : checkL (l.getD i zeroHash) (i : Int) (n : Int) p (rootL l) = 0 := by rw [hpp, ← hln]; exact check_own l i hlt (by omega)
      rw [← hp]
      refine OW.q rfl rfl (yq_move rfl (by (conv => lhs; whnf) <;> rfl)) ?_
      refine OW.q rfl rfl (yq_extract rfl (by (conv => lhs; whnf) <;> rfl) rfl) ?_
      refine OW.q rfl rfl (yq_extract rfl (by (conv => lhs; whnf) <;> rfl) rfl) ?_
      refine OW.q rfl rfl (yq_assign rfl (by (conv => lhs; whnf) <;> rfl)) ?_
      refine OW.q rfl rfl (yq_assign rfl (by (conv => lhs; whnf) <;> rfl)) ?_
      refine OW.nil ?_
      refine hK13 _ _ ?_
      refine CW.seq_k fun K14 hK14 => ?_
      refine CW.region ?_
      refine OW.q rfl rfl (yq_move rfl (by (conv => lhs; whnf) <;> rfl)) ?_
      refine OW.q rfl rfl (yq_call rfl rfl (.cons (by (conv => lhs; whnf) <;> rfl) .nil) en24 (fun w hw => root_calls _ l w (hsR hw (by repeat' first | exact List.mem_cons_self .. | apply List.mem_cons_of_mem)) (by omega) (Cl_gl0 hw hg))) ?_
      refine OW.alloc rfl rfl rfl tz25 (fun b12 => ?_)
      refine OW.storeH rfl rfl rfl (by (conv => lhs; whnf) <;> rfl) (by (conv => lhs; whnf) <;> rfl) ti25 (by repeat' first | exact Put.head | apply Put.tail) (hc_length _) ?_
      refine OW.nil ?_
      refine hK14 _ _ ?_
      refine CW.seq_k fun K15 hK15 => ?_
      refine CW.seq_k fun K16 hK16 => ?_
      refine CW.draw mixed (by kernel_rfl) ?_
      refine QW.q rfl rfl (yq_move rfl (by (conv => lhs; whnf) <;> rfl)) ?_
      refine QW.q rfl rfl (yq_move rfl (by (conv => lhs; whnf) <;> rfl)) ?_
      refine QW.q rfl rfl (yq_index_slice rfl (by (conv => lhs; whnf) <;> rfl) (by (conv => lhs; whnf) <;> rfl) ts22 ti25 (by omega) (by omega)) ?_
      refine QW.q rfl rfl (yq_load_hs (i := i) (v := l.getD i zeroHash) rfl (by (conv => lhs; whnf) <;> rfl) ti25 (fun w hw => (hsR hw (by repeat' first | exact List.mem_cons_self .. | apply List.mem_cons_of_mem))) (at_of_lt hlt)) ?_
      refine QW.q rfl rfl (yq_move rfl (by (conv => lhs; whnf) <;> rfl)) ?_
      refine QW.q rfl rfl (yq_move rfl (by (conv => lhs; whnf) <;> rfl)) ?_
      refine QW.q rfl rfl (yq_move rfl (by (conv => lhs; whnf) <;> rfl)) ?_
      refine QW.q rfl rfl (yq_loadH rfl (by (conv => lhs; whnf) <;> rfl) ti25 (by repeat' first | exact List.mem_cons_self .. | apply List.mem_cons_of_mem)) ?_
      refine QW.q rfl rfl (yq_call rfl rfl (.cons (by (conv => lhs; whnf) <;> rfl) ( .cons (by (conv => lhs; whnf) <;> rfl) ( .cons (by (conv => lhs; whnf) <;> rfl) ( .cons (by (conv => lhs; whnf) <;> rfl) ( .cons (by (conv => lhs; whnf) <;> rfl) .nil))))) en49 (fun w hw => check_calls (l.getD i zeroHash) (rootL l) ((i : Int)) ((n : Int)) (p) _ w (by first | omega | (simp; omega)) ((HsAt.row (a := a1) (cap := c1) rfl (hw.own _ (by repeat' first | exact List.mem_cons_self .. | apply List.mem_cons_of_mem)))) (Cl_gl0 hw hg))) ?_
      refine QW.q rfl rfl ((yq_neq rfl (by (conv => lhs; whnf) <;> rfl) (by (conv => lhs; whnf) <;> rfl)).to (v' := .bool false) (by rw [hk0]; simp)) ?_
      refine QW.q rfl rfl (yq_move rfl (by (conv => lhs; whnf) <;> rfl)) ?_
      refine QW.q rfl rfl (yq_fieldAddr rfl (by (conv => lhs; whnf) <;> rfl) tf76_0 ti25) ?_
      refine QW.q rfl rfl ((yq_loadA (vs := hc cl) rfl (by (conv => lhs; whnf) <;> rfl) (by rw [hc_length]; exact ti25) (by repeat' first | exact List.mem_cons_self .. | apply List.mem_cons_of_mem) hA0)) ?_
      refine QW.q rfl rfl (yq_move rfl (by (conv => lhs; whnf) <;> rfl)) ?_
      refine QW.q rfl rfl (yq_move rfl (by (conv => lhs; whnf) <;> rfl)) ?_
      refine QW.q rfl rfl (yq_move rfl (by (conv => lhs; whnf) <;> rfl)) ?_
      refine QW.q rfl rfl (yq_loadH rfl (by (conv => lhs; whnf) <;> rfl) ti25 (by repeat' first | exact List.mem_cons_self .. | apply List.mem_cons_of_mem)) ?_
      refine QW.q rfl rfl (yq_call rfl rfl (.cons (by (conv => lhs; whnf) <;> rfl) ( .cons (by (conv => lhs; whnf) <;> rfl) ( .cons (by (conv => lhs; whnf) <;> rfl) ( .cons (by (conv => lhs; whnf) <;> rfl) ( .cons (by (conv => lhs; whnf) <;> rfl) .nil))))) en49 (fun w hw => check_calls (cl) (rootL l) ((i : Int)) ((n : Int)) (p) _ w (by first | omega | (simp; omega)) ((HsAt.row (a := a1) (cap := c1) rfl (hw.own _ (by repeat' first | exact List.mem_cons_self .. | apply List.mem_cons_of_mem)))) (Cl_gl0 hw hg))) ?_
      refine QW.q rfl rfl (yq_fieldAddr rfl (by (conv => lhs; whnf) <;> rfl) tf76_0 ti25) ?_
      refine QW.q rfl rfl ((yq_loadA (vs := hc cl) rfl (by (conv => lhs; whnf) <;> rfl) (by rw [hc_length]; exact ti25) (by repeat' first | exact List.mem_cons_self .. | apply List.mem_cons_of_mem) hA0)) ?_
      refine QW.q rfl rfl (yq_move rfl (by (conv => lhs; whnf) <;> rfl)) ?_
      refine QW.q rfl rfl (yq_move rfl (by (conv => lhs; whnf) <;> rfl)) ?_
      refine QW.q rfl rfl (yq_move rfl (by (conv => lhs; whnf) <;> rfl)) ?_
      refine QW.q rfl rfl (yq_loadH rfl (by (conv => lhs; whnf) <;> rfl) ti25 (by repeat' first | exact List.mem_cons_self .. | apply List.mem_cons_of_mem)) ?_
      refine QW.q rfl rfl (yq_call rfl rfl (.cons (by (conv => lhs; whnf) <;> rfl) ( .cons (by (conv => lhs; whnf) <;> rfl) ( .cons (by (conv => lhs; whnf) <;> rfl) ( .cons (by (conv => lhs; whnf) <;> rfl) ( .cons (by (conv => lhs; whnf) <;> rfl) .nil))))) en50 (fun w hw => rcheck_calls (cl) (rootL l) ((i : Int)) ((n : Int)) (p) _ w (by first | omega | (simp; omega)) ((HsAt.row (a := a1) (cap := c1) rfl (hw.own _ (by repeat' first | exact List.mem_cons_self .. | apply List.mem_cons_of_mem)))))) ?_
      refine QW.q rfl rfl ((yq_neq rfl (by (conv => lhs; whnf) <;> rfl) (by (conv => lhs; whnf) <;> rfl)).to (v' := .bool false) (by simp)) ?_
      refine QW.q rfl rfl (yq_pick rfl (by (conv => lhs; whnf) <;> rfl) (by (conv => lhs; whnf) <;> rfl)) ?_
      refine QW.q rfl rfl (yq_move rfl (by (conv => lhs; whnf) <;> rfl)) ?_
      refine QW.q rfl rfl (yq_move rfl (by (conv => lhs; whnf) <;> rfl)) ?_
      refine QW.q rfl rfl (yq_move rfl (by (conv => lhs; whnf) <;> rfl)) ?_
      refine QW.q rfl rfl (yq_index_slice rfl (by (conv => lhs; whnf) <;> rfl) (by (conv => lhs; whnf) <;> rfl) ts22 ti25 (by omega) (by omega)) ?_
      refine QW.q rfl rfl (yq_load_hs (i := i) (v := l.getD i zeroHash) rfl (by (conv => lhs; whnf) <;> rfl) ti25 (fun w hw => (hsR hw (by repeat' first | exact List.mem_cons_self .. | apply List.mem_cons_of_mem))) (at_of_lt hlt)) ?_
      refine QW.q rfl rfl (yq_move rfl (by (conv => lhs; whnf) <;> rfl)) ?_
      refine QW.q rfl rfl (yq_move rfl (by (conv => lhs; whnf) <;> rfl)) ?_
      refine QW.q rfl rfl (yq_move rfl (by (conv => lhs; whnf) <;> rfl)) ?_
      refine QW.q rfl rfl (yq_loadH rfl (by (conv => lhs; whnf) <;> rfl) ti25 (by repeat' first | exact List.mem_cons_self .. | apply List.mem_cons_of_mem)) ?_
      refine QW.q rfl rfl (yq_call rfl rfl (.cons (by (conv => lhs; whnf) <;> rfl) ( .cons (by (conv => lhs; whnf) <;> rfl) ( .cons (by (conv => lhs; whnf) <;> rfl) ( .cons (by (conv => lhs; whnf) <;> rfl) ( .cons (by (conv => lhs; whnf) <;> rfl) .nil))))) en49 (fun w hw => check_calls (l.getD i zeroHash) (rootL l) ((i : Int)) ((n : Int)) (path) _ w (by first | omega | (simp; omega)) (hs.mono hw) (Cl_gl0 hw hg))) ?_
      refine QW.q rfl rfl (yq_move rfl (by (conv => lhs; whnf) <;> rfl)) ?_
      refine QW.q rfl rfl (yq_move rfl (by (conv => lhs; whnf) <;> rfl)) ?_
      refine QW.q rfl rfl (yq_index_slice rfl (by (conv => lhs; whnf) <;> rfl) (by (conv => lhs; whnf) <;> rfl) ts22 ti25 (by omega) (by omega)) ?_
      refine QW.q rfl rfl (yq_load_hs (i := i) (v := l.getD i zeroHash) rfl (by (conv => lhs; whnf) <;> rfl) ti25 (fun w hw => (hsR hw (by repeat' first | exact List.mem_cons_self .. | apply List.mem_cons_of_mem))) (at_of_lt hlt)) ?_
      refine QW.q rfl rfl (yq_move rfl (by (conv => lhs; whnf) <;> rfl)) ?_
      refine QW.q rfl rfl (yq_move rfl (by (conv => lhs; whnf) <;> rfl)) ?_
      refine QW.q rfl rfl (yq_move rfl (by (conv => lhs; whnf) <;> rfl)) ?_
      refine QW.q rfl rfl (yq_loadH rfl (by (conv => lhs; whnf) <;> rfl) ti25 (by repeat' first | exact List.mem_cons_self .. | apply List.mem_cons_of_mem)) ?_
      refine QW.q rfl rfl (yq_call rfl rfl (.cons (by (conv => lhs; whnf) <;> rfl) ( .cons (by (conv => lhs; whnf) <;> rfl) ( .cons (by (conv => lhs; whnf) <;> rfl) ( .cons (by (conv => lhs; whnf) <;> rfl) ( .cons (by (conv => lhs; whnf) <;> rfl) .nil))))) en50 (fun w hw => rcheck_calls (l.getD i zeroHash) (rootL l) ((i : Int)) ((n : Int)) (path) _ w (by first | omega | (simp; omega)) (hs.mono hw))) ?_
      refine QW.q rfl rfl ((yq_neq rfl (by (conv => lhs; whnf) <;> rfl) (by (conv => lhs; whnf) <;> rfl)).to (v' := .bool false) (by simp)) ?_
      refine QW.q rfl rfl (yq_pick rfl (by (conv => lhs; whnf) <;> rfl) (by (conv => lhs; whnf) <;> rfl)) ?_
      refine QW.nil ?_
      refine hK16 _ _ ?_
      refine CW.cond_f (by (conv => lhs; whnf) <;> rfl) ?_
      refine CW.skip ?_
      refine hK15 _ _ ?_
      refine CW.seq_k fun K17 hK17 => ?_
      refine CW.seq_k fun K18 hK18 => ?_
      refine CW.region ?_
      refine OW.q rfl rfl (yq_assign rfl (by (conv => lhs; whnf) <;> rfl)) ?_
      refine OW.nil ?_
      refine hK18 _ _ ?_
      refine CW.block ?_
      refine CW.loop (σ := Nat) (fun k ρ L => Has ρ [(1, .slice a0 path.length cap0), (3, .pointer (some ⟨b3, 0, none⟩)), (5, .pointer (some ⟨b5, 0, none⟩)), (7, .int .i64 (n : Int)), (8, .int .i64 (i : Int)), (9, .slice (some ⟨g, off, none⟩) l.length cp), (10, rowV a1 p.length c1), (12, .pointer (some ⟨b12, 0, none⟩)), (13, .int .i64 (k : Int))] ∧ k ≤ p.length ∧ L = [.blk b12 (hc (rootL l)) 25 (0, 0), .row a1 c1 p.length 25 32 (p.flatMap hc), y, .blk b5 (hc o) 25 (0, 0), .blk b3 (hc cl ++ (hc cr ++ [Value.int .i64 I, Value.int .i64 N])) 76 (0, 0)]) (fun k => p.length - k) (0) ?_ ?_
      · exact ⟨Has.mk ⟨(by (conv => lhs; whnf) <;> rfl), (by (conv => lhs; whnf) <;> rfl), (by (conv => lhs; whnf) <;> rfl), (by (conv => lhs; whnf) <;> rfl), (by (conv => lhs; whnf) <;> rfl), (by (conv => lhs; whnf) <;> rfl), (by (conv => lhs; whnf) <;> rfl), (by (conv => lhs; whnf) <;> rfl), (by (conv => lhs; whnf) <;> rfl), trivial⟩, Nat.zero_le _, rfl⟩
      · rintro k _ _ ⟨⟨ρ', rfl⟩, hk, rfl⟩
        refine CW.seq_k fun K19 hK19 => ?_
        refine CW.seq_k fun K20 hK20 => ?_
        refine CW.region ?_
        refine OW.q rfl rfl (yq_move rfl (by (conv => lhs; whnf) <;> rfl)) ?_
        refine OW.q rfl rfl (yq_move rfl (by (conv => lhs; whnf) <;> rfl)) ?_
        refine OW.q rfl rfl (yq_len_slice rfl ts22 (by (conv => lhs; whnf) <;> rfl)) ?_
        refine OW.q rfl rfl (yq_lss rfl (by (conv => lhs; whnf) <;> rfl) (by (conv => lhs; whnf) <;> rfl)) ?_
        refine OW.nil ?_
        refine hK20 _ _ ?_
        refine CW.cond_dec (by (conv => lhs; whnf) <;> rfl) (fun hc5 => ?_) (fun hc5 => ?_)
        · have hkl : k < p.length := by omega
          refine CW.skip ?_
          refine hK19 _ _ ?_
          refine CW.seq_k fun K21 hK21 => ?_
          refine CW.block ?_
          refine CW.seq_k fun K22 hK22 => ?_
          refine CW.region ?_
          refine OW.nilrow 25 32 ?_
          refine OW.q rfl rfl (yq_move rfl (by (conv => lhs; whnf) <;> rfl)) ?_
          refine OW.appendRow (a := none) (cap := 0) (k := 0) rfl rfl rfl (by (conv => lhs; whnf) <;> rfl) (by (conv => lhs; whnf) <;> rfl) ts22 ti25 tz25 (by repeat' first | exact Del.head | apply Del.tail) (by repeat' first | exact List.mem_cons_self .. | apply List.mem_cons_of_mem) (by intro u hu; obtain ⟨x, _, hx⟩ := List.mem_flatMap.1 hu; exact hc_one x u hx) (hc_length _) (by decide) (by simp only [maxLen]; omega) (by omega) (fun a2 c2 => ?_)
          rw [List.nil_append, show 0 + p.length = p.length from Nat.zero_add _]
          refine OW.know _ (know_row (List.mem_cons_self ..) (by omega)) ?_
          rintro ⟨g2, rfl⟩
          refine OW.q rfl rfl (yq_assign rfl (by (conv => lhs; whnf) <;> rfl)) ?_
          refine OW.nil ?_
          refine hK22 _ _ ?_
          refine CW.seq_k fun K23 hK23 => ?_
          refine CW.region ?_
          refine OW.q rfl rfl (yq_move rfl (by (conv => lhs; whnf) <;> rfl)) ?_
          refine OW.q rfl rfl (yq_move rfl (by (conv => lhs; whnf) <;> rfl)) ?_
          refine OW.q rfl rfl (yq_loadH rfl (by (conv => lhs; whnf) <;> rfl) ti25 (by repeat' first | exact List.mem_cons_self .. | apply List.mem_cons_of_mem)) ?_
          refine OW.q rfl rfl (yq_index_slice rfl (by (conv => lhs; whnf) <;> rfl) (by (conv => lhs; whnf) <;> rfl) ts22 ti25 (by omega) (by omega)) ?_
          refine OW.storeR rfl rfl rfl (by (conv => lhs; whnf) <;> rfl) (by (conv => lhs; whnf) <;> rfl) (vs := hc o) (by rw [hc_length]; exact ti25) rfl (hc_one _) .head (spl_flat0 (k := k) hkl o) (by rw [flat_length, hc_length]; omega) ?_
          refine OW.nil ?_
          refine hK23 _ _ ?_
          refine CW.seq_k fun K24 hK24 => ?_
          refine CW.draw mixed (by kernel_rfl) ?_
          refine QW.q rfl rfl (yq_move rfl (by (conv => lhs; whnf) <;> rfl)) ?_
          refine QW.q rfl rfl (yq_move rfl (by (conv => lhs; whnf) <;> rfl)) ?_
          refine QW.q rfl rfl (yq_index_slice rfl (by (conv => lhs; whnf) <;> rfl) (by (conv => lhs; whnf) <;> rfl) ts22 ti25 (by omega) (by omega)) ?_
          refine QW.q rfl rfl (yq_load_hs (i := i) (v := l.getD i zeroHash) rfl (by (conv => lhs; whnf) <;> rfl) ti25 (fun w hw => (hsR hw (by repeat' first | exact List.mem_cons_self .. | apply List.mem_cons_of_mem))) (at_of_lt hlt)) ?_
          refine QW.q rfl rfl (yq_move rfl (by (conv => lhs; whnf) <;> rfl)) ?_
          refine QW.q rfl rfl (yq_move rfl (by (conv => lhs; whnf) <;> rfl)) ?_
          refine QW.q rfl rfl (yq_move rfl (by (conv => lhs; whnf) <;> rfl)) ?_
          refine QW.q rfl rfl (yq_loadH rfl (by (conv => lhs; whnf) <;> rfl) ti25 (by repeat' first | exact List.mem_cons_self .. | apply List.mem_cons_of_mem)) ?_
          refine QW.q rfl rfl (yq_call rfl rfl (.cons (by (conv => lhs; whnf) <;> rfl) ( .cons (by (conv => lhs; whnf) <;> rfl) ( .cons (by (conv => lhs; whnf) <;> rfl) ( .cons (by (conv => lhs; whnf) <;> rfl) ( .cons (by (conv => lhs; whnf) <;> rfl) .nil))))) en49 (fun w hw => check_calls (l.getD i zeroHash) (rootL l) ((i : Int)) ((n : Int)) (p.set k o) _ w (by first | omega | (simp; omega)) ((HsAt.row (a := some g2) (cap := c2) (by simp) (hw.own _ (by repeat' first | exact List.mem_cons_self .. | apply List.mem_cons_of_mem)))) (Cl_gl0 hw hg))) ?_
          refine QW.q rfl rfl (yq_move rfl (by (conv => lhs; whnf) <;> rfl)) ?_
          refine QW.q rfl rfl (yq_move rfl (by (conv => lhs; whnf) <;> rfl)) ?_
          refine QW.q rfl rfl (yq_index_slice rfl (by (conv => lhs; whnf) <;> rfl) (by (conv => lhs; whnf) <;> rfl) ts22 ti25 (by omega) (by omega)) ?_
          refine QW.q rfl rfl (yq_load_hs (i := i) (v := l.getD i zeroHash) rfl (by (conv => lhs; whnf) <;> rfl) ti25 (fun w hw => (hsR hw (by repeat' first | exact List.mem_cons_self .. | apply List.mem_cons_of_mem))) (at_of_lt hlt)) ?_
          refine QW.q rfl rfl (yq_move rfl (by (conv => lhs; whnf) <;> rfl)) ?_
          refine QW.q rfl rfl (yq_move rfl (by (conv => lhs; whnf) <;> rfl)) ?_
          refine QW.q rfl rfl (yq_move rfl (by (conv => lhs; whnf) <;> rfl)) ?_
          refine QW.q rfl rfl (yq_loadH rfl (by (conv => lhs; whnf) <;> rfl) ti25 (by repeat' first | exact List.mem_cons_self .. | apply List.mem_cons_of_mem)) ?_
          refine QW.q rfl rfl (yq_call rfl rfl (.cons (by (conv => lhs; whnf) <;> rfl) ( .cons (by (conv => lhs; whnf) <;> rfl) ( .cons (by (conv => lhs; whnf) <;> rfl) ( .cons (by (conv => lhs; whnf) <;> rfl) ( .cons (by (conv => lhs; whnf) <;> rfl) .nil))))) en50 (fun w hw => rcheck_calls (l.getD i zeroHash) (rootL l) ((i : Int)) ((n : Int)) (p.set k o) _ w (by first | omega | (simp; omega)) ((HsAt.row (a := some g2) (cap := c2) (by simp) (hw.own _ (by repeat' first | exact List.mem_cons_self .. | apply List.mem_cons_of_mem)))))) ?_
          refine QW.q rfl rfl ((yq_neq rfl (by (conv => lhs; whnf) <;> rfl) (by (conv => lhs; whnf) <;> rfl)).to (v' := .bool false) (by simp)) ?_
          refine QW.nil ?_
          refine hK24 _ _ ?_
          refine CW.cond_f (by (conv => lhs; whnf) <;> rfl) ?_
          refine CW.skip ?_
          refine hK21 _ _ ?_
          refine CW.region ?_
          refine OW.drop (L' := [.blk b12 (hc (rootL l)) 25 (0, 0), .row a1 c1 p.length 25 32 (p.flatMap hc), y, .blk b5 (hc o) 25 (0, 0), .blk b3 (hc cl ++ (hc cr ++ [Value.int .i64 I, Value.int .i64 N])) 76 (0, 0)]) (by repeat' first | exact List.Sublist.refl _ | apply List.Sublist.cons) ?_
          refine OW.q rfl rfl (yq_move rfl (by (conv => lhs; whnf) <;> rfl)) ?_
          refine OW.q rfl rfl (yq_add rfl (by (conv => lhs; whnf) <;> rfl) (by (conv => lhs; whnf) <;> rfl) (by omega)) ?_
          refine OW.q rfl rfl (yq_assign rfl (by (conv => lhs; whnf) <;> rfl)) ?_
          refine OW.nil ?_
          exact ⟨k + 1, ⟨Has.mk ⟨(by (conv => lhs; whnf) <;> rfl), (by (conv => lhs; whnf) <;> rfl), (by (conv => lhs; whnf) <;> rfl), (by (conv => lhs; whnf) <;> rfl), (by (conv => lhs; whnf) <;> rfl), (by (conv => lhs; whnf) <;> rfl), (by (conv => lhs; whnf) <;> rfl), (by (conv => lhs; whnf) <;> rfl), (by (conv => lhs; whnf) <;> rfl), trivial⟩, by omega, rfl⟩, by omega⟩
        · refine CW.exit ?_
          refine then_exit ?_
          refine then_exit ?_
          refine blockQ_hit ?_
          refine hK17 _ _ ?_
          refine CW.seq_k fun K25 hK25 => ?_
          refine CW.region ?_
          refine OW.q rfl rfl (yq_call rfl rfl .nil en40 (fun w hw => found_calls w (Cl_gl0 hw hg))) ?_
          refine OW.q rfl rfl (yq_assign rfl (by (conv => lhs; whnf) <;> rfl)) ?_
          refine OW.nil ?_
          refine hK25 _ _ ?_
          refine CW.ret ?_
          -- ret (ret)
          exact fin1 (Or.inr rfl) rfl ⟨by decide, (by (conv => lhs; whnf) <;> rfl)⟩ (fun w hw => ⟨rfl, hw.sub (List.nil_sublist _)⟩)

end Go.Proofs.YtahdekllphehkaaDoor

