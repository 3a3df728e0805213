/- The schedule of a block; no statement of the seat is proved here. -/
import Derived.Test.YtahdekllphehkaaDoorA2
set_option linter.unusedVariables false
set_option linter.unusedSimpArgs false
namespace Go.Proofs.YtahdekllphehkaaDoor
open Go.WL Go.Spec

theorem rv_cell {P : Program} {n : Nat} {w0 : World} {E : List Nat} {ρ : Nat → Value} {L : List Ent} {p b : Nat} {T Tb : TypeId} {fz : Nat × Nat} {cs : List Value} {y : Nat} (hp : p < n) (ha : ρ p = .pointer (some ⟨b, 0, none⟩)) (ti : tinfo P T = some (cs.length, true, y))
    (hm : Ent.blk b cs Tb fz ∈ L) : RVal P n w0 E ρ L (.cell p T) (.agg cs.toArray) :=
  ⟨hp, _, ha, fun w hw => run_load_agg ti fun j u hu => by rw [hw.cellAt hm]; simpa using hu⟩
theorem U32_one (l : List UInt32) : ∀ u ∈ l.map U32, u.oneCell' = true := by
  intro u hu
  obtain ⟨x, _, rfl⟩ := List.mem_map.1 hu
  rfl
theorem spl_all (cs vs : List Value) (h : vs.length = cs.length) : spl cs 0 vs = vs := by simp [spl, List.drop_eq_nil_of_le, h]
/-- The schedule's array behind so many words. -/
def schedA (blk : Bytes) (k : Nat) : List UInt32 := sched blk k ++ List.replicate (64 - k) 0
theorem schedA_length (blk : Bytes) (k : Nat) (h : k ≤ 64) : (schedA blk k).length = 64 := by simp [schedA, sched_length]; omega
theorem schedA_at (blk : Bytes) (k j : Nat) (h : j < k) : ((schedA blk k).map U32)[j]? = some (U32 ((sched blk k).getD j 0)) := by
  have hl := sched_length blk k
  rw [List.getElem?_map, schedA, List.getElem?_append_left (by omega)]
  simp [List.getD_eq_getElem?_getD, hl, h]
theorem schedA_spl (blk : Bytes) (k : Nat) (h : k < 64) (x : UInt32) (hx : x = nextW blk (sched blk k)) : spl ((schedA blk k).map U32) k [U32 x] = (schedA blk (k + 1)).map U32 := by
  have hl := sched_length blk k
  subst hx
  obtain ⟨m, hm⟩ : ∃ m, 64 - k = m + 1 := ⟨64 - k - 1, by omega⟩
  have hm' : 64 - (k + 1) = m := by omega
  unfold spl schedA
  rw [hm, hm', List.map_append, List.take_left' (by simp [hl]), List.replicate_succ, sched_succ]
  show _ ++ List.drop (k + 1) _ = _
  have : (List.map U32 (sched blk k) ++ List.map U32 (0 :: List.replicate m 0)).drop (k + 1) = List.map U32 (List.replicate m 0) := by
    rw [List.map_cons, List.append_cons]
    exact List.drop_left' (by simp [hl])
  rw [this]
  simp
theorem schedA_zero (blk : Bytes) : (schedA blk 0).map U32 = List.replicate 64 (.int .u32 0) := by
  unfold schedA; rw [sched_zero, List.nil_append, List.map_replicate]; rfl
attribute [irreducible] schedA
theorem spl_at {cs vs cs' : List Value} {off k : Nat} (h : off = k) (h2 : spl cs k vs = cs') : spl cs off vs = cs' := by rw [h]; exact h2
theorem extr_list (s : ByteArray) (a b : Nat) : (s.extract a b).data.toList = (s.data.toList.drop a).take (b - a) := by
  rw [ByteArray.data_extract, Array.toList_extract]
theorem extr_size (s : ByteArray) (a b : Nat) (h : b ≤ s.size) : (s.extract a b).size = b - a := by
  rw [ByteArray.size_extract]; omega

set_option maxRecDepth 100000 in
set_option maxHeartbeats 1000000 in
theorem spread_calls (s : ByteArray) (w : World) (hs : s.size = 64) :
    Calls Tryd.prog 158 #[.string s] w fun e w' => e = .returned (.agg ((sched s.data.toList 64).map U32).toArray) ∧ Cl w [] [] w' := by
  refine calls_of_CW (L := []) Tryd.func158 rfl (Nat.le_of_ble_eq_true rfl) (Cl.refl _) ?_
  refine CW.seq_k fun K1 hK1 => ?_
  refine CW.region ?_
  refine OW.alloc rfl rfl rfl tz190 (fun b => ?_)
  refine OW.nil ?_
  refine hK1 _ _ ?_
  refine CW.seq_k fun K2 hK2 => ?_
  refine CW.seq_k fun K3 hK3 => ?_
  refine CW.region ?_
  refine OW.q rfl rfl (yq_move rfl (by (conv => lhs; whnf) <;> rfl)) ?_
  refine OW.nil ?_
  refine hK3 _ _ ?_
  refine CW.block ?_
  refine CW.loop (σ := Nat) (fun k ρ L => Has ρ [(0, .string s), (2, .pointer (some ⟨b, 0, none⟩)), (6, .int .i64 (k : Int))] ∧ k ≤ 64 ∧ L = [.blk b ((schedA s.data.toList k).map U32) 190 (0, 0)]) (fun k => 64 - k) (0) ?_ ?_
  · exact ⟨Has.mk ⟨(by (conv => lhs; whnf) <;> rfl), (by (conv => lhs; whnf) <;> rfl), (by (conv => lhs; whnf) <;> rfl), trivial⟩, Nat.zero_le _, by rw [schedA_zero]⟩
  · rintro k _ _ ⟨⟨ρ', rfl⟩, hk, rfl⟩
    have eK : 0 + (k : Int).toNat * 1 = k := by omega
    have hw := sched_length s.data.toList k
    refine CW.seq_k fun K4 hK4 => ?_
    refine CW.region ?_
    refine OW.q rfl rfl (yq_lss rfl (by (conv => lhs; whnf) <;> rfl) (by (conv => lhs; whnf) <;> rfl)) ?_
    refine OW.nil ?_
    refine hK4 _ _ ?_
    refine CW.seq_k fun K5 hK5 => ?_
    refine CW.cond_dec (by (conv => lhs; whnf) <;> rfl) (fun hc1 => ?_) (fun hc1 => ?_)
    · refine CW.skip ?_
      refine hK5 _ _ ?_
      refine CW.seq_k fun K6 hK6 => ?_
      refine CW.block ?_
      refine CW.seq_k fun K7 hK7 => ?_
      refine CW.region ?_
      refine OW.q rfl rfl (yq_move rfl (by (conv => lhs; whnf) <;> rfl)) ?_
      refine OW.q rfl rfl (yq_assign rfl (by (conv => lhs; whnf) <;> rfl)) ?_
      refine OW.nil ?_
      refine hK7 _ _ ?_
      refine CW.seq_k fun K8 hK8 => ?_
      refine CW.seq_k fun K9 hK9 => ?_
      refine CW.region ?_
      refine OW.q rfl rfl (yq_move rfl (by (conv => lhs; whnf) <;> rfl)) ?_
      refine OW.q rfl rfl (yq_lss rfl (by (conv => lhs; whnf) <;> rfl) (by (conv => lhs; whnf) <;> rfl)) ?_
      refine OW.nil ?_
      refine hK9 _ _ ?_
      refine CW.cond_dec (by (conv => lhs; whnf) <;> rfl) (fun hc3 => ?_) (fun hc3 => ?_)
      · refine CW.seq_k fun K10 hK10 => ?_
        refine CW.region ?_
        refine OW.q rfl rfl (yq_move rfl (by (conv => lhs; whnf) <;> rfl)) ?_
        refine OW.q rfl rfl (yq_move rfl (by (conv => lhs; whnf) <;> rfl)) ?_
        refine OW.q rfl rfl (yq_move rfl (by (conv => lhs; whnf) <;> rfl)) ?_
        refine OW.q rfl rfl (yq_mul rfl (by (conv => lhs; whnf) <;> rfl) (by (conv => lhs; whnf) <;> rfl) (by omega)) ?_
        refine OW.q rfl rfl (yq_move rfl (by (conv => lhs; whnf) <;> rfl)) ?_
        refine OW.q rfl rfl (yq_mul rfl (by (conv => lhs; whnf) <;> rfl) (by (conv => lhs; whnf) <;> rfl) (by omega)) ?_
        refine OW.q rfl rfl (yq_add rfl (by (conv => lhs; whnf) <;> rfl) (by (conv => lhs; whnf) <;> rfl) (by omega)) ?_
        refine OW.q rfl rfl (yq_slice_str (l := 4 * k) (h := 4 * k + 4) rfl (by (conv => lhs; whnf) <;> rfl) tt9 ⟨_, _, (by (conv => lhs; whnf) <;> rfl), by omega, by omega⟩ ⟨_, _, (by (conv => lhs; whnf) <;> rfl), by omega, by omega⟩ (by omega) (by omega)) ?_
        refine OW.q rfl rfl (yq_call rfl rfl (.cons (by (conv => lhs; whnf) <;> rfl) .nil) en165 (fun w hw => get_calls _ w (by rw [extr_size _ _ _ (by omega)]; omega))) ?_
        refine OW.q rfl rfl (yq_conv_u64_u32 rfl Tryd.underlying147 Tryd.underlying187 (by (conv => lhs; whnf) <;> rfl)) ?_
        refine OW.q rfl rfl (yq_index_arr rfl (by (conv => lhs; whnf) <;> rfl) (by (conv => lhs; whnf) <;> rfl) ta190 ti187 (by omega) (by omega)) ?_
        refine OW.store1 rfl rfl rfl (by (conv => lhs; whnf) <;> rfl) (by (conv => lhs; whnf) <;> rfl) ti187 rfl (.head (L := [])) (spl_at eK (schedA_spl s.data.toList k (by omega) _ (by rw [extr_list, nextW, hw, if_pos (by omega), show 4 * k + 4 - 4 * k = 4 by omega]))) (by rw [List.length_map, schedA_length _ _ (by omega)]; omega) ?_
        refine OW.nil ?_
        refine hK10 _ _ ?_
        refine CW.exit ?_
        refine then_exit ?_
        refine blockQ_hit ?_
        refine hK6 _ _ ?_
        refine CW.region ?_
        refine OW.q rfl rfl (yq_add rfl (by (conv => lhs; whnf) <;> rfl) (by (conv => lhs; whnf) <;> rfl) (by omega)) ?_
        refine OW.q rfl rfl (yq_move rfl (by (conv => lhs; whnf) <;> rfl)) ?_
        refine OW.nil ?_
        exact ⟨k + 1, ⟨Has.mk ⟨(by (conv => lhs; whnf) <;> rfl), (by (conv => lhs; whnf) <;> rfl), (by (conv => lhs; whnf) <;> rfl), trivial⟩, by omega, rfl⟩, by omega⟩
      · refine CW.skip ?_
        refine hK8 _ _ ?_
        refine CW.seq_k fun K11 hK11 => ?_
        refine CW.draw mixed (by kernel_rfl) ?_
        refine QW.q rfl rfl (yq_move rfl (by (conv => lhs; whnf) <;> rfl)) ?_
        refine QW.q rfl rfl (yq_sub rfl (by (conv => lhs; whnf) <;> rfl) (by (conv => lhs; whnf) <;> rfl) (by omega)) ?_
        refine QW.q rfl rfl (yq_index_arr rfl (by (conv => lhs; whnf) <;> rfl) (by (conv => lhs; whnf) <;> rfl) ta190 ti187 (by omega) (by omega)) ?_
        refine QW.q rfl rfl (yq_load1 rfl (by (conv => lhs; whnf) <;> rfl) ti187 (List.mem_cons_self ..) (by rw [show 0 + ((k : Int) - 15).toNat * 1 = k - 15 by omega]; exact schedA_at _ _ _ (by omega))) ?_
        refine QW.q rfl rfl (yq_move rfl (by (conv => lhs; whnf) <;> rfl)) ?_
        refine QW.q rfl rfl (yq_sub rfl (by (conv => lhs; whnf) <;> rfl) (by (conv => lhs; whnf) <;> rfl) (by omega)) ?_
        refine QW.q rfl rfl (yq_index_arr rfl (by (conv => lhs; whnf) <;> rfl) (by (conv => lhs; whnf) <;> rfl) ta190 ti187 (by omega) (by omega)) ?_
        refine QW.q rfl rfl (yq_load1 rfl (by (conv => lhs; whnf) <;> rfl) ti187 (List.mem_cons_self ..) (by rw [show 0 + ((k : Int) - 2).toNat * 1 = k - 2 by omega]; exact schedA_at _ _ _ (by omega))) ?_
        refine QW.q rfl rfl (yq_assign rfl (by (conv => lhs; whnf) <;> rfl)) ?_
        refine QW.q rfl rfl (yq_assign rfl (by (conv => lhs; whnf) <;> rfl)) ?_
        refine QW.nil ?_
        refine hK11 _ _ ?_
        refine CW.drawT 29 mixed (by kernel_rfl) ?_
        refine QW.q rfl rfl (yq_move rfl (by (conv => lhs; whnf) <;> rfl)) ?_
        refine QW.q rfl rfl (yq_move rfl (by (conv => lhs; whnf) <;> rfl)) ?_
        refine QW.q rfl rfl (yq_sub rfl (by (conv => lhs; whnf) <;> rfl) (by (conv => lhs; whnf) <;> rfl) (by omega)) ?_
        refine QW.q rfl rfl (yq_index_arr rfl (by (conv => lhs; whnf) <;> rfl) (by (conv => lhs; whnf) <;> rfl) ta190 ti187 (by omega) (by omega)) ?_
        refine QW.q rfl rfl (yq_load1 rfl (by (conv => lhs; whnf) <;> rfl) ti187 (List.mem_cons_self ..) (by rw [show 0 + ((k : Int) - 16).toNat * 1 = k - 16 by omega]; exact schedA_at _ _ _ (by omega))) ?_
        refine QW.q rfl rfl (yq_move rfl (by (conv => lhs; whnf) <;> rfl)) ?_
        refine QW.q rfl rfl (yq_sub rfl (by (conv => lhs; whnf) <;> rfl) (by (conv => lhs; whnf) <;> rfl) (by omega)) ?_
        refine QW.q rfl rfl (yq_index_arr rfl (by (conv => lhs; whnf) <;> rfl) (by (conv => lhs; whnf) <;> rfl) ta190 ti187 (by omega) (by omega)) ?_
        refine QW.q rfl rfl (yq_load1 rfl (by (conv => lhs; whnf) <;> rfl) ti187 (List.mem_cons_self ..) (by rw [show 0 + ((k : Int) - 7).toNat * 1 = k - 7 by omega]; exact schedA_at _ _ _ (by omega))) ?_
        refine QW.q rfl rfl (yq_add_u32 rfl (by (conv => lhs; whnf) <;> rfl) (by (conv => lhs; whnf) <;> rfl)) ?_
        refine QW.q rfl rfl (yq_move rfl (by (conv => lhs; whnf) <;> rfl)) ?_
        refine QW.q rfl rfl (yq_call rfl rfl (.cons (by (conv => lhs; whnf) <;> rfl) ( .cons (by (conv => lhs; whnf) <;> rfl) .nil)) en159 (fun w hw => right_calls _ 7 w (by decide) (by decide))) ?_
        refine QW.q rfl rfl (yq_move rfl (by (conv => lhs; whnf) <;> rfl)) ?_
        refine QW.q rfl rfl (yq_call rfl rfl (.cons (by (conv => lhs; whnf) <;> rfl) ( .cons (by (conv => lhs; whnf) <;> rfl) .nil)) en159 (fun w hw => right_calls _ 18 w (by decide) (by decide))) ?_
        refine QW.q rfl rfl (yq_xor_u32 rfl (by (conv => lhs; whnf) <;> rfl) (by (conv => lhs; whnf) <;> rfl)) ?_
        refine QW.q rfl rfl (yq_move rfl (by (conv => lhs; whnf) <;> rfl)) ?_
        refine QW.q rfl rfl (yq_shr_u32 (s := 3) rfl (by (conv => lhs; whnf) <;> rfl) (by (conv => lhs; whnf) <;> rfl) (by decide)) ?_
        refine QW.q rfl rfl (yq_xor_u32 rfl (by (conv => lhs; whnf) <;> rfl) (by (conv => lhs; whnf) <;> rfl)) ?_
        refine QW.q rfl rfl (yq_add_u32 rfl (by (conv => lhs; whnf) <;> rfl) (by (conv => lhs; whnf) <;> rfl)) ?_
        refine QW.q rfl rfl (yq_move rfl (by (conv => lhs; whnf) <;> rfl)) ?_
        refine QW.q rfl rfl (yq_call rfl rfl (.cons (by (conv => lhs; whnf) <;> rfl) ( .cons (by (conv => lhs; whnf) <;> rfl) .nil)) en159 (fun w hw => right_calls _ 17 w (by decide) (by decide))) ?_
        refine QW.q rfl rfl (yq_move rfl (by (conv => lhs; whnf) <;> rfl)) ?_
        refine QW.q rfl rfl (yq_call rfl rfl (.cons (by (conv => lhs; whnf) <;> rfl) ( .cons (by (conv => lhs; whnf) <;> rfl) .nil)) en159 (fun w hw => right_calls _ 19 w (by decide) (by decide))) ?_
        refine QW.q rfl rfl (yq_xor_u32 rfl (by (conv => lhs; whnf) <;> rfl) (by (conv => lhs; whnf) <;> rfl)) ?_
        refine QW.q rfl rfl (yq_move rfl (by (conv => lhs; whnf) <;> rfl)) ?_
        refine QW.q rfl rfl (yq_shr_u32 (s := 10) rfl (by (conv => lhs; whnf) <;> rfl) (by (conv => lhs; whnf) <;> rfl) (by decide)) ?_
        refine QW.q rfl rfl (yq_xor_u32 rfl (by (conv => lhs; whnf) <;> rfl) (by (conv => lhs; whnf) <;> rfl)) ?_
        refine QW.q rfl rfl (yq_add_u32 rfl (by (conv => lhs; whnf) <;> rfl) (by (conv => lhs; whnf) <;> rfl)) ?_
        refine QW.q rfl rfl (yq_index_arr rfl (by (conv => lhs; whnf) <;> rfl) (by (conv => lhs; whnf) <;> rfl) ta190 ti187 (by omega) (by omega)) ?_
        refine QW.nil ?_
        refine OW.store1 rfl rfl rfl (by (conv => lhs; whnf) <;> rfl) (by (conv => lhs; whnf) <;> rfl) ti187 rfl (.head (L := [])) (spl_at eK (schedA_spl s.data.toList k (by omega) _ (by rw [nextW, hw, if_neg (by omega)]; rfl))) (by rw [List.length_map, schedA_length _ _ (by omega)]; omega) ?_
        refine OW.nil ?_
        refine hK6 _ _ ?_
        refine CW.region ?_
        refine OW.q rfl rfl (yq_add rfl (by (conv => lhs; whnf) <;> rfl) (by (conv => lhs; whnf) <;> rfl) (by omega)) ?_
        refine OW.q rfl rfl (yq_move rfl (by (conv => lhs; whnf) <;> rfl)) ?_
        refine OW.nil ?_
        exact ⟨k + 1, ⟨Has.mk ⟨(by (conv => lhs; whnf) <;> rfl), (by (conv => lhs; whnf) <;> rfl), (by (conv => lhs; whnf) <;> rfl), trivial⟩, by omega, rfl⟩, by omega⟩
    · have hk64 : k = 64 := by omega
      subst hk64
      refine CW.exit ?_
      refine then_exit ?_
      refine then_exit ?_
      refine blockQ_hit ?_
      refine hK2 _ _ ?_
      refine CW.seq_k fun K12 hK12 => ?_
      refine CW.region ?_
      refine OW.q rfl rfl (yq_loadW rfl (by (conv => lhs; whnf) <;> rfl) (by rw [List.length_map, schedA_length _ _ (by omega)]; exact ti190) (List.mem_cons_self ..)) ?_
      refine OW.store' rfl rfl rfl (by (conv => lhs; whnf) <;> rfl) (by (conv => lhs; whnf) <;> rfl) (vs := (schedA s.data.toList 64).map U32) (by rw [List.length_map, schedA_length _ _ (by omega)]; exact ti190) rfl (U32_one _) (.head (L := [])) (spl_all _ _ rfl) (by rw [Nat.zero_add]; exact Nat.le_refl _) ?_
      refine OW.nil ?_
      refine hK12 _ _ ?_
      refine CW.ret ?_
      -- ret (ret)
      refine fin1 (Or.inr rfl) rfl (rv_cell (by decide) (by (conv => lhs; whnf) <;> rfl) (by rw [List.length_map, schedA_length _ _ (by omega)]; exact ti190) (List.mem_cons_self ..)) (fun w hw => ⟨?_, hw.sub (by simp)⟩)
      rw [show schedA s.data.toList 64 = sched s.data.toList 64 by unfold schedA; simp]

end Go.Proofs.YtahdekllphehkaaDoor
