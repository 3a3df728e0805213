/- Eight numbers behind a block; no statement of the seat is proved here. -/
import Derived.Test.YtahdekllphehkaaDoorA3
set_option linter.unusedVariables false
set_option linter.unusedSimpArgs false
namespace Go.Proofs.YtahdekllphehkaaDoor
open Go.WL Go.Spec

/-- Eight words as a value. -/
def V8 (v : S8) : Value := .agg (v.l.map U32).toArray
theorem l_length (v : S8) : v.l.length = 8 := rfl
/-- The first j words increased. -/
def addK (a b : List UInt32) (j : Nat) : List UInt32 := (List.zipWith (· + ·) a b).take j ++ a.drop j
theorem addK_length (a b : List UInt32) (j : Nat) (h : a.length = b.length) (hj : j ≤ a.length) : (addK a b j).length = a.length := by simp [addK]; omega
theorem addK_at (a b : List UInt32) (j : Nat) (hj : j < a.length) (h : a.length = b.length) : ((addK a b j).map U32)[j]? = some (U32 (a.getD j 0)) := by
  rw [List.getElem?_map, addK, List.getElem?_append_right (by simp; omega)]
  simp [List.getD_eq_getElem?_getD, hj, ← h, Nat.min_eq_left (Nat.le_of_lt hj)]
theorem addK_spl (a b : List UInt32) (j : Nat) (hj : j < a.length) (h : a.length = b.length) : spl ((addK a b j).map U32) j [U32 (a.getD j 0 + b.getD j 0)] = (addK a b (j + 1)).map U32 := by
  have hz : (List.zipWith (· + ·) a b).length = a.length := by simp [h]
  have e1 : ((addK a b j).map U32).take j = ((List.zipWith (· + ·) a b).take j).map U32 := by
    rw [addK, List.map_append]; exact List.take_left' (by simp [h]; omega)
  have e2 : ((addK a b j).map U32).drop (j + 1) = (a.drop (j + 1)).map U32 := by
    rw [addK, List.map_append, ← List.drop_drop, List.drop_left' (by simp [h]; omega), ← List.map_drop, List.drop_drop]
  unfold spl
  show _ ++ _ ++ List.drop (j + 1) _ = _
  rw [e1, e2, addK, List.take_succ_eq_append_getElem (by omega)]
  simp [List.getD_eq_getElem?_getD, hj, ← h]
theorem map_at (l : List UInt32) (j : Nat) (h : j < l.length) : (l.map U32)[j]? = some (U32 (l.getD j 0)) := by
  rw [List.getElem?_map]; simp [List.getD_eq_getElem?_getD, h]
theorem l_at (v : S8) (j : Nat) (h : j < 8) : (v.l.map U32)[j]? = some (U32 (v.l.getD j 0)) := map_at v.l j (by rw [l_length]; exact h)

set_option maxRecDepth 100000 in
set_option maxHeartbeats 1000000 in
theorem mix_calls (v : S8) (s : ByteArray) (w : World) (hs : s.size = 64) (hg : GL w) :
    Calls Tryd.prog 146 #[V8 v, .string s] w fun e w' => e = .returned (V8 (mix8 v s.data.toList)) ∧ Cl w [] [] w' := by
  have hsl := sched_length s.data.toList 64
  refine calls_of_CW (L := []) Tryd.func146 rfl (Nat.le_of_ble_eq_true rfl) (Cl.refl _) ?_
  refine CW.seq_k fun K1 hK1 => ?_
  refine CW.region ?_
  refine OW.box (cs := v.l.map U32) rfl rfl rfl (by (conv => lhs; whnf) <;> rfl) rfl (fun b2 => ?_)
  refine OW.alloc rfl rfl rfl tz188 (fun b4 => ?_)
  refine OW.nil ?_
  refine hK1 _ _ ?_
  refine CW.seq_k fun K2 hK2 => ?_
  refine CW.region ?_
  refine OW.q rfl rfl (yq_loadW (cs := v.l.map U32) rfl (by (conv => lhs; whnf) <;> rfl) ti188 (List.mem_cons_of_mem _ (List.mem_cons_self ..))) ?_
  refine OW.alloc rfl rfl rfl tz188 (fun b5 => ?_)
  refine OW.store' rfl rfl rfl (by (conv => lhs; whnf) <;> rfl) (by (conv => lhs; whnf) <;> rfl) (vs := v.l.map U32) ti188 rfl (U32_one _) .head (spl_all _ _ rfl) (by simp [l_length]) ?_
  refine OW.nil ?_
  refine hK2 _ _ ?_
  refine CW.seq_k fun K3 hK3 => ?_
  refine CW.seq_k fun K4 hK4 => ?_
  refine CW.region ?_
  refine OW.q rfl rfl (yq_move rfl (by (conv => lhs; whnf) <;> rfl)) ?_
  refine OW.q rfl rfl (yq_call rfl rfl (.cons (by (conv => lhs; whnf) <;> rfl) .nil) en158 (fun w hw => spread_calls s w hs)) ?_
  refine OW.q rfl rfl (yq_move rfl (by (conv => lhs; whnf) <;> rfl)) ?_
  refine OW.nil ?_
  refine hK4 _ _ ?_
  refine CW.block ?_
  refine CW.loop (σ := Nat) (fun i ρ L => Has ρ [(2, .pointer (some ⟨b2, 0, none⟩)), (4, .pointer (some ⟨b4, 0, none⟩)), (5, .pointer (some ⟨b5, 0, none⟩)), (15, .agg ((sched s.data.toList 64).map U32).toArray), (16, .int .i64 (i : Int))] ∧ i ≤ 64 ∧ L = [.blk b5 ((rounds8 (sched s.data.toList 64) v i).l.map U32) 188 (0, 0), .blk b4 (List.replicate 8 (.int .u32 0)) 188 (0, 0), .blk b2 (v.l.map U32) 188 (0, 0)]) (fun i => 64 - i) (0) ?_ ?_
  · exact ⟨Has.mk ⟨(by (conv => lhs; whnf) <;> rfl), (by (conv => lhs; whnf) <;> rfl), (by (conv => lhs; whnf) <;> rfl), (by (conv => lhs; whnf) <;> rfl), (by (conv => lhs; whnf) <;> rfl), trivial⟩, Nat.zero_le _, by rw [rounds8_zero]⟩
  · rintro i _ _ ⟨⟨ρ', rfl⟩, hi, rfl⟩
    obtain ⟨vi, hvi⟩ : ∃ vi, vi = rounds8 (sched s.data.toList 64) v i := ⟨_, rfl⟩
    rw [← hvi]
    refine CW.seq_k fun K5 hK5 => ?_
    refine CW.region ?_
    refine OW.q rfl rfl (yq_lss rfl (by (conv => lhs; whnf) <;> rfl) (by (conv => lhs; whnf) <;> rfl)) ?_
    refine OW.nil ?_
    refine hK5 _ _ ?_
    refine CW.seq_k fun K6 hK6 => ?_
    refine CW.cond_dec (by (conv => lhs; whnf) <;> rfl) (fun hc1 => ?_) (fun hc1 => ?_)
    · have hlt : i < 64 := by omega
      have hstep : rounds8 (sched s.data.toList 64) v (i + 1) = step8 vi (roundKs.getD i 0) ((sched s.data.toList 64).getD i 0) := by rw [hvi, rounds8_succ]
      refine CW.skip ?_
      refine hK6 _ _ ?_
      refine CW.seq_k fun K7 hK7 => ?_
      refine CW.block ?_
      refine CW.seq_k fun K8 hK8 => ?_
      refine CW.region ?_
      refine OW.q rfl rfl (yq_move rfl (by (conv => lhs; whnf) <;> rfl)) ?_
      refine OW.q rfl rfl (yq_indexV1 (s := 1) rfl (by (conv => lhs; whnf) <;> rfl) (by (conv => lhs; whnf) <;> rfl) ta190 ti187 (by omega) (by omega) (by rw [Int.toNat_natCast]; exact map_at _ _ (by omega))) ?_
      refine OW.q rfl rfl (yq_assign rfl (by (conv => lhs; whnf) <;> rfl)) ?_
      refine OW.q rfl rfl (yq_assign rfl (by (conv => lhs; whnf) <;> rfl)) ?_
      refine OW.nil ?_
      refine hK8 _ _ ?_
      refine CW.seq_k fun K9 hK9 => ?_
      refine CW.draw mixed (by kernel_rfl) ?_
      refine QW.q rfl rfl (yq_index_arr rfl (by (conv => lhs; whnf) <;> rfl) (by (conv => lhs; whnf) <;> rfl) ta188 ti187 (by decide) (by decide)) ?_
      refine QW.q rfl rfl (yq_load1 rfl (by (conv => lhs; whnf) <;> rfl) ti187 (List.mem_cons_self ..) rfl) ?_
      refine QW.q rfl rfl (yq_index_arr rfl (by (conv => lhs; whnf) <;> rfl) (by (conv => lhs; whnf) <;> rfl) ta188 ti187 (by decide) (by decide)) ?_
      refine QW.q rfl rfl (yq_load1 rfl (by (conv => lhs; whnf) <;> rfl) ti187 (List.mem_cons_self ..) rfl) ?_
      refine QW.q rfl rfl (yq_assign rfl (by (conv => lhs; whnf) <;> rfl)) ?_
      refine QW.q rfl rfl (yq_assign rfl (by (conv => lhs; whnf) <;> rfl)) ?_
      refine QW.nil ?_
      refine hK9 _ _ ?_
      refine CW.seq_k fun K10 hK10 => ?_
      refine CW.draw mixed (by kernel_rfl) ?_
      refine QW.q rfl rfl (yq_index_arr rfl (by (conv => lhs; whnf) <;> rfl) (by (conv => lhs; whnf) <;> rfl) ta188 ti187 (by decide) (by decide)) ?_
      refine QW.q rfl rfl (yq_load1 rfl (by (conv => lhs; whnf) <;> rfl) ti187 (List.mem_cons_self ..) rfl) ?_
      refine QW.q rfl rfl (yq_move rfl (by (conv => lhs; whnf) <;> rfl)) ?_
      refine QW.q rfl rfl (yq_call rfl rfl (.cons (by (conv => lhs; whnf) <;> rfl) ( .cons (by (conv => lhs; whnf) <;> rfl) .nil)) en159 (fun w hw => right_calls _ 6 w (by decide) (by decide))) ?_
      refine QW.q rfl rfl (yq_move rfl (by (conv => lhs; whnf) <;> rfl)) ?_
      refine QW.q rfl rfl (yq_call rfl rfl (.cons (by (conv => lhs; whnf) <;> rfl) ( .cons (by (conv => lhs; whnf) <;> rfl) .nil)) en159 (fun w hw => right_calls _ 11 w (by decide) (by decide))) ?_
      refine QW.q rfl rfl (yq_xor_u32 rfl (by (conv => lhs; whnf) <;> rfl) (by (conv => lhs; whnf) <;> rfl)) ?_
      refine QW.q rfl rfl (yq_move rfl (by (conv => lhs; whnf) <;> rfl)) ?_
      refine QW.q rfl rfl (yq_call rfl rfl (.cons (by (conv => lhs; whnf) <;> rfl) ( .cons (by (conv => lhs; whnf) <;> rfl) .nil)) en159 (fun w hw => right_calls _ 25 w (by decide) (by decide))) ?_
      refine QW.q rfl rfl (yq_xor_u32 rfl (by (conv => lhs; whnf) <;> rfl) (by (conv => lhs; whnf) <;> rfl)) ?_
      refine QW.q rfl rfl (yq_add_u32 rfl (by (conv => lhs; whnf) <;> rfl) (by (conv => lhs; whnf) <;> rfl)) ?_
      refine QW.q rfl rfl (yq_move rfl (by (conv => lhs; whnf) <;> rfl)) ?_
      refine QW.q rfl rfl (yq_index_arr rfl (by (conv => lhs; whnf) <;> rfl) (by (conv => lhs; whnf) <;> rfl) ta188 ti187 (by decide) (by decide)) ?_
      refine QW.q rfl rfl (yq_load1 rfl (by (conv => lhs; whnf) <;> rfl) ti187 (List.mem_cons_self ..) rfl) ?_
      refine QW.q rfl rfl (yq_and_u32 rfl (by (conv => lhs; whnf) <;> rfl) (by (conv => lhs; whnf) <;> rfl)) ?_
      refine QW.q rfl rfl (yq_move rfl (by (conv => lhs; whnf) <;> rfl)) ?_
      refine QW.q rfl rfl (yq_not_u32 rfl (by (conv => lhs; whnf) <;> rfl)) ?_
      refine QW.q rfl rfl (yq_index_arr rfl (by (conv => lhs; whnf) <;> rfl) (by (conv => lhs; whnf) <;> rfl) ta188 ti187 (by decide) (by decide)) ?_
      refine QW.q rfl rfl (yq_load1 rfl (by (conv => lhs; whnf) <;> rfl) ti187 (List.mem_cons_self ..) rfl) ?_
      refine QW.q rfl rfl (yq_and_u32 rfl (by (conv => lhs; whnf) <;> rfl) (by (conv => lhs; whnf) <;> rfl)) ?_
      refine QW.q rfl rfl (yq_xor_u32 rfl (by (conv => lhs; whnf) <;> rfl) (by (conv => lhs; whnf) <;> rfl)) ?_
      refine QW.q rfl rfl (yq_add_u32 rfl (by (conv => lhs; whnf) <;> rfl) (by (conv => lhs; whnf) <;> rfl)) ?_
      refine QW.q rfl rfl (yq_move rfl (by (conv => lhs; whnf) <;> rfl)) ?_
      refine QW.q rfl rfl (yq_index_arr rfl (by (conv => lhs; whnf) <;> rfl) (by (conv => lhs; whnf) <;> rfl) ta190 ti187 (by omega) (by omega)) ?_
      refine QW.q rfl rfl (yq_load_c rfl (by (conv => lhs; whnf) <;> rfl) (fun w hw => run_load_one ti187 (by rw [show 0 + (i : Int).toNat * 1 = i by omega]; exact (Cl_gl0 hw hg).2 i _ (map_at roundKs i (by exact hlt))))) ?_
      refine QW.q rfl rfl (yq_add_u32 rfl (by (conv => lhs; whnf) <;> rfl) (by (conv => lhs; whnf) <;> rfl)) ?_
      refine QW.q rfl rfl (yq_move rfl (by (conv => lhs; whnf) <;> rfl)) ?_
      refine QW.q rfl rfl (yq_add_u32 rfl (by (conv => lhs; whnf) <;> rfl) (by (conv => lhs; whnf) <;> rfl)) ?_
      refine QW.q rfl rfl (yq_assign rfl (by (conv => lhs; whnf) <;> rfl)) ?_
      refine QW.nil ?_
      refine hK10 _ _ ?_
      refine CW.seq_k fun K11 hK11 => ?_
      refine CW.draw mixed (by kernel_rfl) ?_
      refine QW.q rfl rfl (yq_move rfl (by (conv => lhs; whnf) <;> rfl)) ?_
      refine QW.q rfl rfl (yq_call rfl rfl (.cons (by (conv => lhs; whnf) <;> rfl) ( .cons (by (conv => lhs; whnf) <;> rfl) .nil)) en159 (fun w hw => right_calls _ 2 w (by decide) (by decide))) ?_
      refine QW.q rfl rfl (yq_move rfl (by (conv => lhs; whnf) <;> rfl)) ?_
      refine QW.q rfl rfl (yq_call rfl rfl (.cons (by (conv => lhs; whnf) <;> rfl) ( .cons (by (conv => lhs; whnf) <;> rfl) .nil)) en159 (fun w hw => right_calls _ 13 w (by decide) (by decide))) ?_
      refine QW.q rfl rfl (yq_xor_u32 rfl (by (conv => lhs; whnf) <;> rfl) (by (conv => lhs; whnf) <;> rfl)) ?_
      refine QW.q rfl rfl (yq_move rfl (by (conv => lhs; whnf) <;> rfl)) ?_
      refine QW.q rfl rfl (yq_call rfl rfl (.cons (by (conv => lhs; whnf) <;> rfl) ( .cons (by (conv => lhs; whnf) <;> rfl) .nil)) en159 (fun w hw => right_calls _ 22 w (by decide) (by decide))) ?_
      refine QW.q rfl rfl (yq_xor_u32 rfl (by (conv => lhs; whnf) <;> rfl) (by (conv => lhs; whnf) <;> rfl)) ?_
      refine QW.q rfl rfl (yq_move rfl (by (conv => lhs; whnf) <;> rfl)) ?_
      refine QW.q rfl rfl (yq_index_arr rfl (by (conv => lhs; whnf) <;> rfl) (by (conv => lhs; whnf) <;> rfl) ta188 ti187 (by decide) (by decide)) ?_
      refine QW.q rfl rfl (yq_load1 rfl (by (conv => lhs; whnf) <;> rfl) ti187 (List.mem_cons_self ..) rfl) ?_
      refine QW.q rfl rfl (yq_and_u32 rfl (by (conv => lhs; whnf) <;> rfl) (by (conv => lhs; whnf) <;> rfl)) ?_
      refine QW.q rfl rfl (yq_move rfl (by (conv => lhs; whnf) <;> rfl)) ?_
      refine QW.q rfl rfl (yq_index_arr rfl (by (conv => lhs; whnf) <;> rfl) (by (conv => lhs; whnf) <;> rfl) ta188 ti187 (by decide) (by decide)) ?_
      refine QW.q rfl rfl (yq_load1 rfl (by (conv => lhs; whnf) <;> rfl) ti187 (List.mem_cons_self ..) rfl) ?_
      refine QW.q rfl rfl (yq_and_u32 rfl (by (conv => lhs; whnf) <;> rfl) (by (conv => lhs; whnf) <;> rfl)) ?_
      refine QW.q rfl rfl (yq_xor_u32 rfl (by (conv => lhs; whnf) <;> rfl) (by (conv => lhs; whnf) <;> rfl)) ?_
      refine QW.q rfl rfl (yq_index_arr rfl (by (conv => lhs; whnf) <;> rfl) (by (conv => lhs; whnf) <;> rfl) ta188 ti187 (by decide) (by decide)) ?_
      refine QW.q rfl rfl (yq_load1 rfl (by (conv => lhs; whnf) <;> rfl) ti187 (List.mem_cons_self ..) rfl) ?_
      refine QW.q rfl rfl (yq_index_arr rfl (by (conv => lhs; whnf) <;> rfl) (by (conv => lhs; whnf) <;> rfl) ta188 ti187 (by decide) (by decide)) ?_
      refine QW.q rfl rfl (yq_load1 rfl (by (conv => lhs; whnf) <;> rfl) ti187 (List.mem_cons_self ..) rfl) ?_
      refine QW.q rfl rfl (yq_and_u32 rfl (by (conv => lhs; whnf) <;> rfl) (by (conv => lhs; whnf) <;> rfl)) ?_
      refine QW.q rfl rfl (yq_xor_u32 rfl (by (conv => lhs; whnf) <;> rfl) (by (conv => lhs; whnf) <;> rfl)) ?_
      refine QW.q rfl rfl (yq_add_u32 rfl (by (conv => lhs; whnf) <;> rfl) (by (conv => lhs; whnf) <;> rfl)) ?_
      refine QW.q rfl rfl (yq_assign rfl (by (conv => lhs; whnf) <;> rfl)) ?_
      refine QW.nil ?_
      refine hK11 _ _ ?_
      refine CW.region ?_
      refine OW.q rfl rfl (yq_move rfl (by (conv => lhs; whnf) <;> rfl)) ?_
      refine OW.q rfl rfl (yq_move rfl (by (conv => lhs; whnf) <;> rfl)) ?_
      refine OW.q rfl rfl (yq_add_u32 rfl (by (conv => lhs; whnf) <;> rfl) (by (conv => lhs; whnf) <;> rfl)) ?_
      refine OW.q rfl rfl (yq_move rfl (by (conv => lhs; whnf) <;> rfl)) ?_
      refine OW.q rfl rfl (yq_index_arr rfl (by (conv => lhs; whnf) <;> rfl) (by (conv => lhs; whnf) <;> rfl) ta188 ti187 (by decide) (by decide)) ?_
      refine OW.q rfl rfl (yq_load1 rfl (by (conv => lhs; whnf) <;> rfl) ti187 (List.mem_cons_self ..) rfl) ?_
      refine OW.q rfl rfl (yq_index_arr rfl (by (conv => lhs; whnf) <;> rfl) (by (conv => lhs; whnf) <;> rfl) ta188 ti187 (by decide) (by decide)) ?_
      refine OW.q rfl rfl (yq_load1 rfl (by (conv => lhs; whnf) <;> rfl) ti187 (List.mem_cons_self ..) rfl) ?_
      refine OW.q rfl rfl (yq_index_arr rfl (by (conv => lhs; whnf) <;> rfl) (by (conv => lhs; whnf) <;> rfl) ta188 ti187 (by decide) (by decide)) ?_
      refine OW.q rfl rfl (yq_load1 rfl (by (conv => lhs; whnf) <;> rfl) ti187 (List.mem_cons_self ..) rfl) ?_
      refine OW.q rfl rfl (yq_move rfl (by (conv => lhs; whnf) <;> rfl)) ?_
      refine OW.q rfl rfl (yq_add_u32 rfl (by (conv => lhs; whnf) <;> rfl) (by (conv => lhs; whnf) <;> rfl)) ?_
      refine OW.q rfl rfl (yq_move rfl (by (conv => lhs; whnf) <;> rfl)) ?_
      refine OW.q rfl rfl (yq_index_arr rfl (by (conv => lhs; whnf) <;> rfl) (by (conv => lhs; whnf) <;> rfl) ta188 ti187 (by decide) (by decide)) ?_
      refine OW.q rfl rfl (yq_load1 rfl (by (conv => lhs; whnf) <;> rfl) ti187 (List.mem_cons_self ..) rfl) ?_
      refine OW.q rfl rfl (yq_index_arr rfl (by (conv => lhs; whnf) <;> rfl) (by (conv => lhs; whnf) <;> rfl) ta188 ti187 (by decide) (by decide)) ?_
      refine OW.q rfl rfl (yq_load1 rfl (by (conv => lhs; whnf) <;> rfl) ti187 (List.mem_cons_self ..) rfl) ?_
      refine OW.q rfl rfl (yq_build (cs := (step8 vi (roundKs.getD i 0) ((sched s.data.toList 64).getD i 0)).l.map U32) rfl rfl (by kernel_rfl)) ?_
      refine OW.store' rfl rfl rfl (by (conv => lhs; whnf) <;> rfl) (by (conv => lhs; whnf) <;> rfl) (vs := (step8 vi (roundKs.getD i 0) ((sched s.data.toList 64).getD i 0)).l.map U32) ti188 rfl (U32_one _) .head (spl_all _ _ rfl) (by simp [l_length]) ?_
      refine OW.nil ?_
      refine hK7 _ _ ?_
      refine CW.region ?_
      refine OW.q rfl rfl (yq_add rfl (by (conv => lhs; whnf) <;> rfl) (by (conv => lhs; whnf) <;> rfl) (by omega)) ?_
      refine OW.q rfl rfl (yq_move rfl (by (conv => lhs; whnf) <;> rfl)) ?_
      refine OW.nil ?_
      exact ⟨i + 1, ⟨Has.mk ⟨(by (conv => lhs; whnf) <;> rfl), (by (conv => lhs; whnf) <;> rfl), (by (conv => lhs; whnf) <;> rfl), (by (conv => lhs; whnf) <;> rfl), (by (conv => lhs; whnf) <;> rfl), trivial⟩, by omega, by rw [hstep]⟩, by omega⟩
    · have hi64 : i = 64 := by omega
      clear hi hc1
      subst hi64
      refine CW.exit ?_
      refine then_exit ?_
      refine then_exit ?_
      refine blockQ_hit ?_
      refine hK3 _ _ ?_
      refine CW.seq_k fun K12 hK12 => ?_
      refine CW.seq_k fun K13 hK13 => ?_
      refine CW.region ?_
      refine OW.q rfl rfl (yq_move rfl (by (conv => lhs; whnf) <;> rfl)) ?_
      refine OW.nil ?_
      refine hK13 _ _ ?_
      refine CW.block ?_
      refine CW.loop (σ := Nat) (fun j ρ L => Has ρ [(2, .pointer (some ⟨b2, 0, none⟩)), (4, .pointer (some ⟨b4, 0, none⟩)), (5, .pointer (some ⟨b5, 0, none⟩)), (95, .int .i64 (j : Int))] ∧ j ≤ 8 ∧ L = [.blk b5 ((addK vi.l v.l j).map U32) 188 (0, 0), .blk b4 (List.replicate 8 (.int .u32 0)) 188 (0, 0), .blk b2 (v.l.map U32) 188 (0, 0)]) (fun j => 8 - j) (0) ?_ ?_
      · exact ⟨Has.mk ⟨(by (conv => lhs; whnf) <;> rfl), (by (conv => lhs; whnf) <;> rfl), (by (conv => lhs; whnf) <;> rfl), (by (conv => lhs; whnf) <;> rfl), trivial⟩, Nat.zero_le _, rfl⟩
      · rintro j _ _ ⟨⟨ρ', rfl⟩, hj, rfl⟩
        have eJ : 0 + (j : Int).toNat * 1 = j := by omega
        refine CW.seq_k fun K14 hK14 => ?_
        refine CW.region ?_
        refine OW.q rfl rfl (yq_lss rfl (by (conv => lhs; whnf) <;> rfl) (by (conv => lhs; whnf) <;> rfl)) ?_
        refine OW.nil ?_
        refine hK14 _ _ ?_
        refine CW.seq_k fun K15 hK15 => ?_
        refine CW.cond_dec (by (conv => lhs; whnf) <;> rfl) (fun hc4 => ?_) (fun hc4 => ?_)
        · refine CW.skip ?_
          refine hK15 _ _ ?_
          refine CW.seq_k fun K16 hK16 => ?_
          refine CW.block ?_
          refine CW.seq_k fun K17 hK17 => ?_
          refine CW.region ?_
          refine OW.q rfl rfl (yq_move rfl (by (conv => lhs; whnf) <;> rfl)) ?_
          refine OW.q rfl rfl (yq_assign rfl (by (conv => lhs; whnf) <;> rfl)) ?_
          refine OW.nil ?_
          refine hK17 _ _ ?_
          refine CW.drawT 8 mixed (by kernel_rfl) ?_
          refine QW.q rfl rfl (yq_move rfl (by (conv => lhs; whnf) <;> rfl)) ?_
          refine QW.q rfl rfl (yq_index_arr rfl (by (conv => lhs; whnf) <;> rfl) (by (conv => lhs; whnf) <;> rfl) ta188 ti187 (by omega) (by omega)) ?_
          refine QW.q rfl rfl (yq_load1 rfl (by (conv => lhs; whnf) <;> rfl) ti187 (List.mem_cons_self ..) (by rw [eJ]; exact addK_at _ _ _ (by rw [l_length]; omega) rfl)) ?_
          refine QW.q rfl rfl (yq_move rfl (by (conv => lhs; whnf) <;> rfl)) ?_
          refine QW.q rfl rfl (yq_index_arr rfl (by (conv => lhs; whnf) <;> rfl) (by (conv => lhs; whnf) <;> rfl) ta188 ti187 (by omega) (by omega)) ?_
          refine QW.q rfl rfl (yq_load1 rfl (by (conv => lhs; whnf) <;> rfl) ti187 (List.mem_cons_of_mem _ (List.mem_cons_of_mem _ (List.mem_cons_self ..))) (by rw [eJ]; exact l_at _ _ (by omega))) ?_
          refine QW.q rfl rfl (yq_add_u32 rfl (by (conv => lhs; whnf) <;> rfl) (by (conv => lhs; whnf) <;> rfl)) ?_
          refine QW.q rfl rfl (yq_index_arr rfl (by (conv => lhs; whnf) <;> rfl) (by (conv => lhs; whnf) <;> rfl) ta188 ti187 (by omega) (by omega)) ?_
          refine QW.nil ?_
          refine OW.store1 rfl rfl rfl (by (conv => lhs; whnf) <;> rfl) (by (conv => lhs; whnf) <;> rfl) ti187 rfl .head (spl_at eJ (addK_spl _ _ _ (by rw [l_length]; omega) rfl)) (by rw [List.length_map, addK_length vi.l v.l j rfl (by rw [l_length]; omega), l_length]; omega) ?_
          refine OW.nil ?_
          refine hK16 _ _ ?_
          refine CW.region ?_
          refine OW.q rfl rfl (yq_add rfl (by (conv => lhs; whnf) <;> rfl) (by (conv => lhs; whnf) <;> rfl) (by omega)) ?_
          refine OW.q rfl rfl (yq_move rfl (by (conv => lhs; whnf) <;> rfl)) ?_
          refine OW.nil ?_
          exact ⟨j + 1, ⟨Has.mk ⟨(by (conv => lhs; whnf) <;> rfl), (by (conv => lhs; whnf) <;> rfl), (by (conv => lhs; whnf) <;> rfl), (by (conv => lhs; whnf) <;> rfl), trivial⟩, by omega, rfl⟩, by omega⟩
        · have hj8 : j = 8 := by omega
          clear hj hc4
          subst hj8
          refine CW.exit ?_
          refine then_exit ?_
          refine then_exit ?_
          refine blockQ_hit ?_
          refine hK12 _ _ ?_
          refine CW.seq_k fun K18 hK18 => ?_
          refine CW.region ?_
          refine OW.q rfl rfl (yq_loadW (cs := (addK vi.l v.l 8).map U32) rfl (by (conv => lhs; whnf) <;> rfl) ti188 (List.mem_cons_self ..)) ?_
          refine OW.store' rfl rfl rfl (by (conv => lhs; whnf) <;> rfl) (by (conv => lhs; whnf) <;> rfl) (vs := (addK vi.l v.l 8).map U32) ti188 rfl (U32_one _) (.tail .head) (spl_all _ _ rfl) (by simp [l_length, addK]) ?_
          refine OW.nil ?_
          refine hK18 _ _ ?_
          refine CW.ret ?_
          -- ret (ret)
          refine fin1 (Or.inr rfl) rfl (rv_cell (cs := (addK vi.l v.l 8).map U32) (by decide) (by (conv => lhs; whnf) <;> rfl) ti188 (List.mem_cons_of_mem _ (List.mem_cons_self ..))) (fun w hw => ⟨?_, hw.sub (by simp)⟩)
          rw [hvi]; rfl

end Go.Proofs.YtahdekllphehkaaDoor
