/- Peers as they are; no statement of the seat is proved here. -/
import Derived.Test.YtahdekllphehkaaA1
import Derived.Test.YtahdekllphehkaaS2
set_option linter.unusedVariables false
set_option linter.unusedSimpArgs false
namespace Go.Proofs.Ytahdekllphehkaa
open Go.WL Go.Spec

set_option maxRecDepth 100000 in
set_option maxHeartbeats 1000000 in
theorem near_calls (t : Int) (w : World) : Calls Try.prog 32 #[.int .i64 t] w fun e w' => e = .returned (.int .i64 (near t)) ∧ Cl w [] [] w' := by
  refine calls_of_CW (L := []) Try.func32 rfl (Nat.le_of_ble_eq_true rfl) (Cl.refl _) ?_
  refine CW.seq_k fun K1 hK1 => ?_
  refine CW.region ?_
  refine OW.q rfl rfl (yq_assign rfl (by (conv => lhs; whnf) <;> rfl)) ?_
  refine OW.nil ?_
  refine hK1 _ _ ?_
  refine CW.seq_k fun K2 hK2 => ?_
  refine CW.region ?_
  refine OW.q rfl rfl (yq_move rfl (by (conv => lhs; whnf) <;> rfl)) ?_
  refine OW.q rfl rfl (yq_max (r := if t < 0 then 0 else t) rfl (by (conv => lhs; whnf) <;> rfl) (by (conv => lhs; whnf) <;> rfl) rfl) ?_
  refine OW.q rfl rfl (yq_min (r := near t) rfl (by (conv => lhs; whnf) <;> rfl) (by (conv => lhs; whnf) <;> rfl) (by unfold near; omega)) ?_
  refine OW.q rfl rfl (yq_assign rfl (by (conv => lhs; whnf) <;> rfl)) ?_
  refine OW.nil ?_
  refine hK2 _ _ ?_
  refine CW.ret ?_
  -- ret (ret)
  exact fin1 (Or.inr rfl) rfl ⟨by decide, (by (conv => lhs; whnf) <;> rfl)⟩ (fun w hw => ⟨rfl, hw.sub (List.nil_sublist _)⟩)

set_option maxRecDepth 100000 in
set_option maxHeartbeats 1000000 in
theorem none_none (v : Value) (w : World) (hn : NoneAt w v) : Calls Try.prog 33 #[v] w fun e w' => e = .returned (.bool true) ∧ Cl w [] [] w' := by
  refine calls_of_CW (L := []) Try.func33 rfl (Nat.le_of_ble_eq_true rfl) (Cl.refl _) ?_
  refine CW.seq_k fun K1 hK1 => ?_
  refine CW.region ?_
  refine OW.q rfl rfl (yq_assign rfl (by (conv => lhs; whnf) <;> rfl)) ?_
  refine OW.nil ?_
  refine hK1 _ _ ?_
  refine CW.seq_k fun K2 hK2 => ?_
  refine CW.region ?_
  rcases hn with rfl | ⟨b, rfl, hb0⟩
  · refine OW.q rfl rfl (yq_move rfl (by (conv => lhs; whnf) <;> rfl)) ?_
    refine OW.q rfl rfl ((yq_eql_ptnil rfl (by (conv => lhs; whnf) <;> rfl) (by (conv => lhs; whnf) <;> rfl) (by kernel_rfl)).to (v' := .bool true) rfl) ?_
    refine OW.q rfl rfl (yq_move rfl (by (conv => lhs; whnf) <;> rfl)) ?_
    refine OW.skip rfl rfl ?_
    refine OW.skip rfl rfl ?_
    refine OW.skip rfl rfl ?_
    refine OW.skip rfl rfl ?_
    refine OW.skip rfl rfl ?_
    refine OW.skip rfl rfl ?_
    refine OW.q rfl rfl (yq_pick rfl (by (conv => lhs; whnf) <;> rfl) (by (conv => lhs; whnf) <;> rfl)) ?_
    refine OW.q rfl rfl (yq_assign rfl (by (conv => lhs; whnf) <;> rfl)) ?_
    refine OW.nil ?_
    refine hK2 _ _ ?_
    refine CW.ret ?_
    -- ret (ret)
    exact fin1 (Or.inr rfl) rfl ⟨by decide, (by (conv => lhs; whnf) <;> rfl)⟩ (fun w hw => ⟨rfl, hw.sub (List.nil_sublist _)⟩)
  · refine OW.q rfl rfl (yq_move rfl (by (conv => lhs; whnf) <;> rfl)) ?_
    refine OW.q rfl rfl ((yq_eql_ptnil rfl (by (conv => lhs; whnf) <;> rfl) (by (conv => lhs; whnf) <;> rfl) (by kernel_rfl)).to (v' := .bool false) rfl) ?_
    refine OW.q rfl rfl (yq_move rfl (by (conv => lhs; whnf) <;> rfl)) ?_
    refine OW.q rfl rfl (yq_move rfl (by (conv => lhs; whnf) <;> rfl)) ?_
    refine OW.q rfl rfl (yq_nilCheck rfl (by (conv => lhs; whnf) <;> rfl)) ?_
    refine OW.q rfl rfl (yq_fieldAddr rfl (by (conv => lhs; whnf) <;> rfl) tf55_0 ti53) ?_
    refine OW.q rfl rfl (yq_load_c (v := .slice none 0 0) rfl (by (conv => lhs; whnf) <;> rfl) (fun w hw => run_load_one ti53 (cell_keep hw hb0 (by simp)))) ?_
    refine OW.q rfl rfl (yq_len_slice rfl ts53 (by (conv => lhs; whnf) <;> rfl)) ?_
    refine OW.q rfl rfl ((yq_eql rfl (by (conv => lhs; whnf) <;> rfl) (by (conv => lhs; whnf) <;> rfl)).to (v' := .bool true) rfl) ?_
    refine OW.q rfl rfl (yq_pick rfl (by (conv => lhs; whnf) <;> rfl) (by (conv => lhs; whnf) <;> rfl)) ?_
    refine OW.q rfl rfl (yq_assign rfl (by (conv => lhs; whnf) <;> rfl)) ?_
    refine OW.nil ?_
    refine hK2 _ _ ?_
    refine CW.ret ?_
    -- ret (ret)
    exact fin1 (Or.inr rfl) rfl ⟨by decide, (by (conv => lhs; whnf) <;> rfl)⟩ (fun w hw => ⟨rfl, hw.sub (List.nil_sublist _)⟩)

set_option maxRecDepth 100000 in
set_option maxHeartbeats 1000000 in
theorem none_ps (p : PS) (b b2 cap : Nat) (w : World) (hp : PsAt w b b2 cap p) (hok : p.ok) : Calls Try.prog 33 #[.pointer (some ⟨b, 0, none⟩)] w fun e w' => e = .returned (.bool false) ∧ Cl w [] [] w' := by
  have hl1 := hok.1
  refine calls_of_CW (L := []) Try.func33 rfl (Nat.le_of_ble_eq_true rfl) (Cl.refl _) ?_
  refine CW.seq_k fun K1 hK1 => ?_
  refine CW.region ?_
  refine OW.q rfl rfl (yq_assign rfl (by (conv => lhs; whnf) <;> rfl)) ?_
  refine OW.nil ?_
  refine hK1 _ _ ?_
  refine CW.seq_k fun K2 hK2 => ?_
  refine CW.region ?_
  refine OW.q rfl rfl (yq_move rfl (by (conv => lhs; whnf) <;> rfl)) ?_
  refine OW.q rfl rfl ((yq_eql_ptnil rfl (by (conv => lhs; whnf) <;> rfl) (by (conv => lhs; whnf) <;> rfl) (by kernel_rfl)).to (v' := .bool false) rfl) ?_
  refine OW.q rfl rfl (yq_move rfl (by (conv => lhs; whnf) <;> rfl)) ?_
  refine OW.q rfl rfl (yq_move rfl (by (conv => lhs; whnf) <;> rfl)) ?_
  refine OW.q rfl rfl (yq_nilCheck rfl (by (conv => lhs; whnf) <;> rfl)) ?_
  refine OW.q rfl rfl (yq_fieldAddr rfl (by (conv => lhs; whnf) <;> rfl) tf55_0 ti53) ?_
  refine OW.q rfl rfl (yq_load_c (v := .slice (some ⟨b2, 0, none⟩) p.l.length cap) rfl (by (conv => lhs; whnf) <;> rfl) (fun w hw => run_load_one ti53 (hp.mono hw).c0)) ?_
  refine OW.q rfl rfl (yq_len_slice rfl ts53 (by (conv => lhs; whnf) <;> rfl)) ?_
  refine OW.q rfl rfl ((yq_eql rfl (by (conv => lhs; whnf) <;> rfl) (by (conv => lhs; whnf) <;> rfl)).to (v' := .bool false) (congrArg Value.bool (decide_eq_false (by omega)))) ?_
  refine OW.q rfl rfl (yq_pick rfl (by (conv => lhs; whnf) <;> rfl) (by (conv => lhs; whnf) <;> rfl)) ?_
  refine OW.q rfl rfl (yq_assign rfl (by (conv => lhs; whnf) <;> rfl)) ?_
  refine OW.nil ?_
  refine hK2 _ _ ?_
  refine CW.ret ?_
  -- ret (ret)
  exact fin1 (Or.inr rfl) rfl ⟨by decide, (by (conv => lhs; whnf) <;> rfl)⟩ (fun w hw => ⟨rfl, hw.sub (List.nil_sublist _)⟩)

set_option maxRecDepth 100000 in
set_option maxHeartbeats 1000000 in
theorem check_none (v : Value) (i : Int) (w : World) (hn : NoneAt w v) : Calls Try.prog 31 #[v, .int .i64 i] w fun e w' => e = .returned (.int .i64 1) ∧ Cl w [] [] w' := by
  refine calls_of_CW (L := []) Try.func31 rfl (Nat.le_of_ble_eq_true rfl) (Cl.refl _) ?_
  refine CW.seq_k fun K1 hK1 => ?_
  refine CW.region ?_
  refine OW.q rfl rfl (yq_assign rfl (by (conv => lhs; whnf) <;> rfl)) ?_
  refine OW.nil ?_
  refine hK1 _ _ ?_
  refine CW.seq_k fun K2 hK2 => ?_
  refine CW.block ?_
  refine CW.seq_k fun K3 hK3 => ?_
  refine CW.region ?_
  refine OW.q rfl rfl (yq_move rfl (by (conv => lhs; whnf) <;> rfl)) ?_
  refine OW.q rfl rfl (yq_call rfl rfl (.cons (by (conv => lhs; whnf) <;> rfl) .nil) en33 (fun w hw => none_none _ w (hn.mono hw))) ?_
  refine OW.q rfl rfl (yq_assign rfl (by (conv => lhs; whnf) <;> rfl)) ?_
  refine OW.nil ?_
  refine hK3 _ _ ?_
  refine CW.cond_t (by (conv => lhs; whnf) <;> rfl) ?_
  refine CW.seq_k fun K4 hK4 => ?_
  refine CW.region ?_
  refine OW.q rfl rfl (yq_assign rfl (by (conv => lhs; whnf) <;> rfl)) ?_
  refine OW.nil ?_
  refine hK4 _ _ ?_
  refine CW.ret ?_
  refine blockQ_ret ?_
  refine then_ret ?_
  -- ret (ret)
  exact fin1 (Or.inr rfl) rfl ⟨by decide, (by (conv => lhs; whnf) <;> rfl)⟩ (fun w hw => ⟨rfl, hw.sub (List.nil_sublist _)⟩)

set_option maxRecDepth 100000 in
set_option maxHeartbeats 1000000 in
theorem check_ps (p : PS) (i : Int) (b b2 cap : Nat) (w : World) (hp : PsAt w b b2 cap p) (hok : p.ok) : Calls Try.prog 31 #[.pointer (some ⟨b, 0, none⟩), .int .i64 i] w fun e w' => e = .returned (.int .i64 (actE p i)) ∧ Cl w [] [] w' := by
  refine calls_of_CW (L := []) Try.func31 rfl (Nat.le_of_ble_eq_true rfl) (Cl.refl _) ?_
  refine CW.seq_k fun K1 hK1 => ?_
  refine CW.region ?_
  refine OW.q rfl rfl (yq_assign rfl (by (conv => lhs; whnf) <;> rfl)) ?_
  refine OW.nil ?_
  refine hK1 _ _ ?_
  refine CW.seq_k fun K2 hK2 => ?_
  refine CW.block ?_
  refine CW.seq_k fun K3 hK3 => ?_
  refine CW.region ?_
  refine OW.q rfl rfl (yq_move rfl (by (conv => lhs; whnf) <;> rfl)) ?_
  refine OW.q rfl rfl (yq_call rfl rfl (.cons (by (conv => lhs; whnf) <;> rfl) .nil) en33 (fun w hw => none_ps p b b2 cap w (hp.mono hw) hok)) ?_
  refine OW.q rfl rfl (yq_assign rfl (by (conv => lhs; whnf) <;> rfl)) ?_
  refine OW.nil ?_
  refine hK3 _ _ ?_
  refine CW.cond_f (by (conv => lhs; whnf) <;> rfl) ?_
  refine CW.seq_k fun K4 hK4 => ?_
  refine CW.region ?_
  refine OW.q rfl rfl (yq_move rfl (by (conv => lhs; whnf) <;> rfl)) ?_
  refine OW.qb rfl rfl (yq_lss rfl (by (conv => lhs; whnf) <;> rfl) (by (conv => lhs; whnf) <;> rfl)) (fun b10 hb10 => ?_)
  refine OW.q rfl rfl (yq_move rfl (by (conv => lhs; whnf) <;> rfl)) ?_
  apply OW.segOr 8 [12, 13, 14, 15, 16, 17, 18] 19 hb10
  · intro hb10e
    refine QW.q (by subst hb10e; rfl) rfl (yq_move rfl (by (conv => lhs; whnf) <;> rfl)) ?_
    refine QW.q (by subst hb10e; rfl) rfl (yq_move rfl (by (conv => lhs; whnf) <;> rfl)) ?_
    refine QW.q (by subst hb10e; rfl) rfl (yq_nilCheck rfl (by (conv => lhs; whnf) <;> rfl)) ?_
    refine QW.q (by subst hb10e; rfl) rfl (yq_fieldAddr rfl (by (conv => lhs; whnf) <;> rfl) tf55_0 ti53) ?_
    refine QW.q (by subst hb10e; rfl) rfl (yq_load_c (v := .slice (some ⟨b2, 0, none⟩) p.l.length cap) rfl (by (conv => lhs; whnf) <;> rfl) (fun w hw => run_load_one ti53 (hp.mono hw).c0)) ?_
    refine QW.q (by subst hb10e; rfl) rfl (yq_len_slice rfl ts53 (by (conv => lhs; whnf) <;> rfl)) ?_
    refine QW.qb (by subst hb10e; rfl) rfl (yq_geq rfl (by (conv => lhs; whnf) <;> rfl) (by (conv => lhs; whnf) <;> rfl)) (fun b18 hb18 => ?_)
    refine QW.q rfl rfl (yq_pick rfl (by (conv => lhs; whnf) <;> rfl) (by subst hb10e; ((conv => lhs; whnf) <;> rfl))) ?_
    exact QW.nil (SegM.mk (any_c (any_c (any_c (any_c (any_c (any_c (any_c any_n))))))) (or_run hb10 hb10e hb18))
  · intro hb10e
    refine QW.skip (by subst hb10e; rfl) rfl ?_
    refine QW.skip (by subst hb10e; rfl) rfl ?_
    refine QW.skip (by subst hb10e; rfl) rfl ?_
    refine QW.skip (by subst hb10e; rfl) rfl ?_
    refine QW.skip (by subst hb10e; rfl) rfl ?_
    refine QW.skip (by subst hb10e; rfl) rfl ?_
    refine QW.skip (by subst hb10e; rfl) rfl ?_
    refine QW.q rfl rfl (yq_pick rfl (by (conv => lhs; whnf) <;> rfl) (by subst hb10e; ((conv => lhs; whnf) <;> rfl))) ?_
    exact QW.nil (SegM.mk (any_c (any_c (any_c (any_c (any_c (any_c (any_c any_n))))))) (or_skip hb10 hb10e))
  · intro ρ19 b19 hA hb19
    obtain ⟨x12, x13, x14, x15, x16, x17, x18, rfl⟩ := hA
    refine OW.q rfl rfl (yq_assign rfl (by (conv => lhs; whnf) <;> rfl)) ?_
    refine OW.nil ?_
    refine hK4 _ _ ?_
    refine CW.condq (by (conv => lhs; whnf) <;> rfl) hb19 (fun hc2 => ?_) (fun hc2 => ?_)
    · refine CW.seq_k fun K5 hK5 => ?_
      refine CW.region ?_
      refine OW.q rfl rfl (yq_assign rfl (by (conv => lhs; whnf) <;> rfl)) ?_
      refine OW.nil ?_
      refine hK5 _ _ ?_
      refine CW.ret ?_
      refine blockQ_ret ?_
      refine then_ret ?_
      -- ret (ret)
      rw [actE_out (by unfold inP; omega)]
      exact fin1 (Or.inr rfl) rfl ⟨by decide, (by (conv => lhs; whnf) <;> rfl)⟩ (fun w hw => ⟨rfl, hw.sub (List.nil_sublist _)⟩)
    · refine CW.skip ?_
      refine hK2 _ _ ?_
      refine CW.seq_k fun K6 hK6 => ?_
      refine CW.region ?_
      refine OW.q rfl rfl (yq_assign rfl (by (conv => lhs; whnf) <;> rfl)) ?_
      refine OW.nil ?_
      refine hK6 _ _ ?_
      refine CW.ret ?_
      -- ret (ret)
      rw [actE_in (by unfold inP; omega)]
      exact fin1 (Or.inr rfl) rfl ⟨by decide, (by (conv => lhs; whnf) <;> rfl)⟩ (fun w hw => ⟨rfl, hw.sub (List.nil_sublist _)⟩)

set_option maxRecDepth 100000 in
set_option maxHeartbeats 1000000 in
theorem state_none (v : Value) (i : Int) (w : World) (hn : NoneAt w v) : Calls Try.prog 20 #[v, .int .i64 i] w fun e w' => e = .returned (.tuple #[.agg (prC Pr.zero).toArray, .int .i64 1]) ∧ Cl w [] [] w' := by
  refine calls_of_CW (L := []) Try.func20 rfl (Nat.le_of_ble_eq_true rfl) (Cl.refl _) ?_
  refine CW.seq_k fun K1 hK1 => ?_
  refine CW.region ?_
  refine OW.alloc rfl rfl rfl tz42 (fun b4 => ?_)
  refine OW.q rfl rfl (yq_assign rfl (by (conv => lhs; whnf) <;> rfl)) ?_
  refine OW.nil ?_
  refine hK1 _ _ ?_
  refine CW.seq_k fun K2 hK2 => ?_
  refine CW.seq_k fun K3 hK3 => ?_
  refine CW.region ?_
  refine OW.q rfl rfl (yq_move rfl (by (conv => lhs; whnf) <;> rfl)) ?_
  refine OW.q rfl rfl (yq_move rfl (by (conv => lhs; whnf) <;> rfl)) ?_
  refine OW.q rfl rfl (yq_call rfl rfl (.cons (by (conv => lhs; whnf) <;> rfl) ( .cons (by (conv => lhs; whnf) <;> rfl) .nil)) en31 (fun w hw => check_none _ i w (hn.mono hw))) ?_
  refine OW.q rfl rfl (yq_assign rfl (by (conv => lhs; whnf) <;> rfl)) ?_
  refine OW.nil ?_
  refine hK3 _ _ ?_
  refine CW.seq_k fun K4 hK4 => ?_
  refine CW.region ?_
  refine OW.q rfl rfl (yq_move rfl (by (conv => lhs; whnf) <;> rfl)) ?_
  refine OW.q rfl rfl ((yq_neq rfl (by (conv => lhs; whnf) <;> rfl) (by (conv => lhs; whnf) <;> rfl)).to (v' := .bool true) (by simp)) ?_
  refine OW.nil ?_
  refine hK4 _ _ ?_
  refine CW.cond_t (by (conv => lhs; whnf) <;> rfl) ?_
  refine CW.seq_k fun K5 hK5 => ?_
  refine CW.region ?_
  refine OW.q rfl rfl (yq_build (parts := []) (pv := []) (cs := prC Pr.zero) rfl rfl (by kernel_rfl)) ?_
  refine OW.q rfl rfl (yq_move rfl (by (conv => lhs; whnf) <;> rfl)) ?_
  refine OW.store' rfl rfl rfl (by (conv => lhs; whnf) <;> rfl) (by (conv => lhs; whnf) <;> rfl) (vs := prC Pr.zero) ti42 rfl (prC_one _) (by repeat' first | exact Put.head | apply Put.tail) (cs' := prC Pr.zero) (by exact spl_all _ _ rfl) (by exact Nat.le_of_ble_eq_true rfl) ?_
  refine OW.q rfl rfl (yq_assign rfl (by (conv => lhs; whnf) <;> rfl)) ?_
  refine OW.nil ?_
  refine hK5 _ _ ?_
  refine CW.ret ?_
  refine then_ret ?_
  -- ret (ret)
  exact fin2 (Or.inr rfl) rfl (rv_agg (vs := prC Pr.zero) (by decide) (by (conv => lhs; whnf) <;> rfl) ti42 (by repeat' first | exact List.mem_cons_self .. | apply List.mem_cons_of_mem)) ⟨by decide, (by (conv => lhs; whnf) <;> rfl)⟩ (fun w hw => ⟨rfl, hw.sub (List.nil_sublist _)⟩)

set_option maxRecDepth 100000 in
set_option maxHeartbeats 1000000 in
theorem state_ps (p : PS) (i : Int) (b b2 cap : Nat) (w : World) (hp : PsAt w b b2 cap p) (hok : p.ok) : Calls Try.prog 20 #[.pointer (some ⟨b, 0, none⟩), .int .i64 i] w fun e w' => e = .returned (.tuple #[.agg (prC (stateX p i)).toArray, .int .i64 (actE p i)]) ∧ Cl w [] [] w' := by
  refine calls_of_CW (L := []) Try.func20 rfl (Nat.le_of_ble_eq_true rfl) (Cl.refl _) ?_
  refine CW.seq_k fun K1 hK1 => ?_
  refine CW.region ?_
  refine OW.alloc rfl rfl rfl tz42 (fun b4 => ?_)
  refine OW.q rfl rfl (yq_assign rfl (by (conv => lhs; whnf) <;> rfl)) ?_
  refine OW.nil ?_
  refine hK1 _ _ ?_
  refine CW.seq_k fun K2 hK2 => ?_
  refine CW.seq_k fun K3 hK3 => ?_
  refine CW.region ?_
  refine OW.q rfl rfl (yq_move rfl (by (conv => lhs; whnf) <;> rfl)) ?_
  refine OW.q rfl rfl (yq_move rfl (by (conv => lhs; whnf) <;> rfl)) ?_
  refine OW.q rfl rfl (yq_call rfl rfl (.cons (by (conv => lhs; whnf) <;> rfl) ( .cons (by (conv => lhs; whnf) <;> rfl) .nil)) en31 (fun w hw => check_ps p i b b2 cap w (hp.mono hw) hok)) ?_
  refine OW.q rfl rfl (yq_assign rfl (by (conv => lhs; whnf) <;> rfl)) ?_
  refine OW.nil ?_
  refine hK3 _ _ ?_
  refine CW.seq_k fun K4 hK4 => ?_
  refine CW.region ?_
  refine OW.q rfl rfl (yq_move rfl (by (conv => lhs; whnf) <;> rfl)) ?_
  refine OW.q rfl rfl (yq_neq rfl (by (conv => lhs; whnf) <;> rfl) (by (conv => lhs; whnf) <;> rfl)) ?_
  refine OW.nil ?_
  refine hK4 _ _ ?_
  refine CW.cond_dec (by (conv => lhs; whnf) <;> rfl) (fun hc0 => ?_) (fun hc0 => ?_)
  · have hout : ¬ inP p i := fun h => hc0 (actE_in h)
    refine CW.seq_k fun K5 hK5 => ?_
    refine CW.region ?_
    refine OW.q rfl rfl (yq_build (parts := []) (pv := []) (cs := prC Pr.zero) rfl rfl (by kernel_rfl)) ?_
    refine OW.q rfl rfl (yq_move rfl (by (conv => lhs; whnf) <;> rfl)) ?_
    refine OW.store' rfl rfl rfl (by (conv => lhs; whnf) <;> rfl) (by (conv => lhs; whnf) <;> rfl) (vs := prC Pr.zero) ti42 rfl (prC_one _) (by repeat' first | exact Put.head | apply Put.tail) (cs' := prC Pr.zero) (by exact spl_all _ _ rfl) (by exact Nat.le_of_ble_eq_true rfl) ?_
    refine OW.q rfl rfl (yq_assign rfl (by (conv => lhs; whnf) <;> rfl)) ?_
    refine OW.nil ?_
    refine hK5 _ _ ?_
    refine CW.ret ?_
    refine then_ret ?_
    -- ret (ret)
    rw [stateX_out hout]
    exact fin2 (Or.inr rfl) rfl (rv_agg (vs := prC Pr.zero) (by decide) (by (conv => lhs; whnf) <;> rfl) ti42 (by repeat' first | exact List.mem_cons_self .. | apply List.mem_cons_of_mem)) ⟨by decide, (by (conv => lhs; whnf) <;> rfl)⟩ (fun w hw => ⟨rfl, hw.sub (List.nil_sublist _)⟩)
  · have hin0 : inP p i := by
      by_cases h : inP p i
      · exact h
      · exact absurd (actE_out h) (by intro e; rw [e] at hc0; exact hc0 (by decide))
    have hin1 := hin0
    unfold inP at hin1
    obtain ⟨k, rfl⟩ : ∃ k : Nat, i = (k : Int) := ⟨i.toNat, by omega⟩
    have hk : k < p.l.length := by omega
    have hin : inP p (k : Int) := by unfold inP; omega
    refine CW.skip ?_
    refine hK2 _ _ ?_
    refine CW.seq_k fun K6 hK6 => ?_
    refine CW.region ?_
    refine OW.q rfl rfl (yq_move rfl (by (conv => lhs; whnf) <;> rfl)) ?_
    refine OW.q rfl rfl (yq_nilCheck rfl (by (conv => lhs; whnf) <;> rfl)) ?_
    refine OW.q rfl rfl (yq_fieldAddr rfl (by (conv => lhs; whnf) <;> rfl) tf55_0 ti53) ?_
    refine OW.q rfl rfl (yq_load_c (v := .slice (some ⟨b2, 0, none⟩) p.l.length cap) rfl (by (conv => lhs; whnf) <;> rfl) (fun w hw => run_load_one ti53 (hp.mono hw).c0)) ?_
    refine OW.q rfl rfl (yq_move rfl (by (conv => lhs; whnf) <;> rfl)) ?_
    refine OW.q rfl rfl (yq_index_slice rfl (by (conv => lhs; whnf) <;> rfl) (by (conv => lhs; whnf) <;> rfl) ts53 ti42 (by omega) (by omega)) ?_
    refine OW.q rfl rfl (yq_load_c (v := .agg (prC (p.get k)).toArray) rfl (by (conv => lhs; whnf) <;> rfl) (fun w hw => run_load_agg ti42 (fun j u hu => (hp.mono hw).row _ _ (pr_atA hk j u hu)))) ?_
    refine OW.store' rfl rfl rfl (by (conv => lhs; whnf) <;> rfl) (by (conv => lhs; whnf) <;> rfl) (vs := prC (p.get k)) ti42 rfl (prC_one _) (by repeat' first | exact Put.head | apply Put.tail) (cs' := prC (p.get k)) (by exact spl_all _ _ rfl) (by exact Nat.le_of_ble_eq_true rfl) ?_
    refine OW.q rfl rfl (yq_assign rfl (by (conv => lhs; whnf) <;> rfl)) ?_
    refine OW.nil ?_
    refine hK6 _ _ ?_
    refine CW.ret ?_
    -- ret (ret)
    rw [stateX_in hk, actE_in hin]
    exact fin2 (Or.inr rfl) rfl (rv_agg (vs := prC (p.get k)) (by decide) (by (conv => lhs; whnf) <;> rfl) ti42 (by repeat' first | exact List.mem_cons_self .. | apply List.mem_cons_of_mem)) ⟨by decide, (by (conv => lhs; whnf) <;> rfl)⟩ (fun w hw => ⟨rfl, hw.sub (List.nil_sublist _)⟩)

set_option maxRecDepth 100000 in
set_option maxHeartbeats 1000000 in
theorem barred_none (v : Value) (i now : Int) (w : World) (hn : NoneAt w v) : Calls Try.prog 21 #[v, .int .i64 i, .int .i64 now] w fun e w' => e = .returned (.bool false) ∧ Cl w [] [] w' := by
  obtain ⟨bx, hbx⟩ : ∃ bx : Bool, Pr.zero.barred = bx := ⟨_, rfl⟩
  refine calls_of_CW (L := []) Try.func21 rfl (Nat.le_of_ble_eq_true rfl) (Cl.refl _) ?_
  refine CW.seq_k fun K1 hK1 => ?_
  refine CW.region ?_
  refine OW.q rfl rfl (yq_assign rfl (by (conv => lhs; whnf) <;> rfl)) ?_
  refine OW.nil ?_
  refine hK1 _ _ ?_
  refine CW.seq_k fun K2 hK2 => ?_
  refine CW.region ?_
  refine OW.q rfl rfl (yq_move rfl (by (conv => lhs; whnf) <;> rfl)) ?_
  refine OW.q rfl rfl (yq_move rfl (by (conv => lhs; whnf) <;> rfl)) ?_
  refine OW.q rfl rfl (yq_call rfl rfl (.cons (by (conv => lhs; whnf) <;> rfl) ( .cons (by (conv => lhs; whnf) <;> rfl) .nil)) en20 (fun w hw => state_none _ i w (hn.mono hw))) ?_
  refine OW.q rfl rfl (yq_move rfl (by (conv => lhs; whnf) <;> rfl)) ?_
  refine OW.q rfl rfl (yq_extract rfl (by (conv => lhs; whnf) <;> rfl) rfl) ?_
  refine OW.q rfl rfl (yq_extract rfl (by (conv => lhs; whnf) <;> rfl) rfl) ?_
  refine OW.alloc rfl rfl rfl tz42 (fun b7 => ?_)
  refine OW.store' rfl rfl rfl (by (conv => lhs; whnf) <;> rfl) (by (conv => lhs; whnf) <;> rfl) (vs := prC Pr.zero) ti42 rfl (prC_one _) (by repeat' first | exact Put.head | apply Put.tail) (cs' := prC Pr.zero) (by exact spl_all _ _ rfl) (by exact Nat.le_of_ble_eq_true rfl) ?_
  refine OW.q rfl rfl (yq_assign rfl (by (conv => lhs; whnf) <;> rfl)) ?_
  refine OW.nil ?_
  refine hK2 _ _ ?_
  refine CW.seq_k fun K3 hK3 => ?_
  refine CW.draw mixed (by kernel_rfl) ?_
  refine QW.q rfl rfl (yq_move rfl (by (conv => lhs; whnf) <;> rfl)) ?_
  refine QW.q rfl rfl ((yq_eql rfl (by (conv => lhs; whnf) <;> rfl) (by (conv => lhs; whnf) <;> rfl)).to (v' := .bool false) (by simp)) ?_
  refine QW.q rfl rfl (yq_move rfl (by (conv => lhs; whnf) <;> rfl)) ?_
  refine QW.skip rfl rfl ?_
  refine QW.skip rfl rfl ?_
  refine QW.q rfl rfl (yq_pick rfl (by (conv => lhs; whnf) <;> rfl) (by (conv => lhs; whnf) <;> rfl)) ?_
  refine QW.q rfl rfl (yq_move rfl (by (conv => lhs; whnf) <;> rfl)) ?_
  refine QW.skip rfl rfl ?_
  refine QW.skip rfl rfl ?_
  refine QW.skip rfl rfl ?_
  refine QW.skip rfl rfl ?_
  refine QW.skip rfl rfl ?_
  refine QW.q rfl rfl (yq_pick rfl (by (conv => lhs; whnf) <;> rfl) (by (conv => lhs; whnf) <;> rfl)) ?_
  refine QW.q rfl rfl (yq_assign rfl (by (conv => lhs; whnf) <;> rfl)) ?_
  refine QW.nil ?_
  refine hK3 _ _ ?_
  refine CW.ret ?_
  -- ret (ret)
  exact fin1 (Or.inr rfl) rfl ⟨by decide, (by (conv => lhs; whnf) <;> rfl)⟩ (fun w hw => ⟨rfl, hw.sub (List.nil_sublist _)⟩)

set_option maxRecDepth 100000 in
set_option maxHeartbeats 1000000 in
theorem barred_ps (p : PS) (i now : Int) (b b2 cap : Nat) (w : World) (hp : PsAt w b b2 cap p) (hok : p.ok) : Calls Try.prog 21 #[.pointer (some ⟨b, 0, none⟩), .int .i64 i, .int .i64 now] w fun e w' => e = .returned (.bool (decide (barredP p i now))) ∧ Cl w [] [] w' := by
  obtain ⟨bx, hbx⟩ : ∃ bx : Bool, (stateX p i).barred = bx := ⟨_, rfl⟩
  refine calls_of_CW (L := []) Try.func21 rfl (Nat.le_of_ble_eq_true rfl) (Cl.refl _) ?_
  refine CW.seq_k fun K1 hK1 => ?_
  refine CW.region ?_
  refine OW.q rfl rfl (yq_assign rfl (by (conv => lhs; whnf) <;> rfl)) ?_
  refine OW.nil ?_
  refine hK1 _ _ ?_
  refine CW.seq_k fun K2 hK2 => ?_
  refine CW.region ?_
  refine OW.q rfl rfl (yq_move rfl (by (conv => lhs; whnf) <;> rfl)) ?_
  refine OW.q rfl rfl (yq_move rfl (by (conv => lhs; whnf) <;> rfl)) ?_
  refine OW.q rfl rfl (yq_call rfl rfl (.cons (by (conv => lhs; whnf) <;> rfl) ( .cons (by (conv => lhs; whnf) <;> rfl) .nil)) en20 (fun w hw => state_ps p i b b2 cap w (hp.mono hw) hok)) ?_
  refine OW.q rfl rfl (yq_move rfl (by (conv => lhs; whnf) <;> rfl)) ?_
  refine OW.q rfl rfl (yq_extract rfl (by (conv => lhs; whnf) <;> rfl) rfl) ?_
  refine OW.q rfl rfl (yq_extract rfl (by (conv => lhs; whnf) <;> rfl) rfl) ?_
  refine OW.alloc rfl rfl rfl tz42 (fun b7 => ?_)
  refine OW.store' rfl rfl rfl (by (conv => lhs; whnf) <;> rfl) (by (conv => lhs; whnf) <;> rfl) (vs := prC (stateX p i)) ti42 rfl (prC_one _) (by repeat' first | exact Put.head | apply Put.tail) (cs' := prC (stateX p i)) (by exact spl_all _ _ rfl) (by exact Nat.le_of_ble_eq_true rfl) ?_
  refine OW.q rfl rfl (yq_assign rfl (by (conv => lhs; whnf) <;> rfl)) ?_
  refine OW.nil ?_
  refine hK2 _ _ ?_
  refine CW.seq_k fun K3 hK3 => ?_
  refine CW.draw mixed (by kernel_rfl) ?_
  refine QW.q rfl rfl (yq_move rfl (by (conv => lhs; whnf) <;> rfl)) ?_
  refine QW.qb rfl rfl (yq_eql rfl (by (conv => lhs; whnf) <;> rfl) (by (conv => lhs; whnf) <;> rfl)) (fun b16 hb16 => ?_)
  refine QW.q rfl rfl (yq_move rfl (by (conv => lhs; whnf) <;> rfl)) ?_
  apply QW.segAnd 3 [18, 19] 20 hb16
  · intro hb16e
    refine QW.q (by subst hb16e; rfl) rfl (yq_fieldAddr rfl (by (conv => lhs; whnf) <;> rfl) tf42_3 ti4) ?_
    refine QW.q (by subst hb16e; rfl) rfl (yq_load1 (v := .bool bx) rfl (by (conv => lhs; whnf) <;> rfl) ti4 (by repeat' first | exact List.mem_cons_self .. | apply List.mem_cons_of_mem) (by rw [← hbx]; rfl)) ?_
    refine QW.q rfl rfl (yq_pick rfl (by (conv => lhs; whnf) <;> rfl) (by subst hb16e; ((conv => lhs; whnf) <;> rfl))) ?_
    exact QW.nil (SegM.mk (any_c (any_c any_n)) (and_run hb16 hb16e (Iff.refl (bx = true))))
  · intro hb16e
    refine QW.skip (by subst hb16e; rfl) rfl ?_
    refine QW.skip (by subst hb16e; rfl) rfl ?_
    refine QW.q rfl rfl (yq_pick rfl (by (conv => lhs; whnf) <;> rfl) (by subst hb16e; ((conv => lhs; whnf) <;> rfl))) ?_
    exact QW.nil (SegM.mk (any_c (any_c any_n)) (and_skip hb16 hb16e))
  · intro ρ20 b20 hA hb20
    obtain ⟨x18, x19, rfl⟩ := hA
    refine QW.q rfl rfl (yq_move rfl (by (conv => lhs; whnf) <;> rfl)) ?_
    apply QW.segAnd 6 [22, 23, 24, 25, 26] 27 hb20
    · intro hb20e
      refine QW.q (by subst hb20e; rfl) rfl (yq_fieldAddr rfl (by (conv => lhs; whnf) <;> rfl) tf42_2 ti3) ?_
      refine QW.q (by subst hb20e; rfl) rfl (yq_load1 (v := .int .i64 (stateX p i).upto) rfl (by (conv => lhs; whnf) <;> rfl) ti3 (by repeat' first | exact List.mem_cons_self .. | apply List.mem_cons_of_mem) (by rfl)) ?_
      refine QW.q (by subst hb20e; rfl) rfl (yq_move rfl (by (conv => lhs; whnf) <;> rfl)) ?_
      refine QW.q (by subst hb20e; rfl) rfl (yq_call rfl rfl (.cons (by (conv => lhs; whnf) <;> rfl) .nil) en32 (fun w hw => near_calls now w)) ?_
      refine QW.qb (by subst hb20e; rfl) rfl (yq_gtr rfl (by (conv => lhs; whnf) <;> rfl) (by (conv => lhs; whnf) <;> rfl)) (fun b26 hb26 => ?_)
      refine QW.q rfl rfl (yq_pick rfl (by (conv => lhs; whnf) <;> rfl) (by subst hb20e; ((conv => lhs; whnf) <;> rfl))) ?_
      exact QW.nil (SegM.mk (any_c (any_c (any_c (any_c (any_c any_n))))) (and_run hb20 hb20e hb26))
    · intro hb20e
      refine QW.skip (by subst hb20e; rfl) rfl ?_
      refine QW.skip (by subst hb20e; rfl) rfl ?_
      refine QW.skip (by subst hb20e; rfl) rfl ?_
      refine QW.skip (by subst hb20e; rfl) rfl ?_
      refine QW.skip (by subst hb20e; rfl) rfl ?_
      refine QW.q rfl rfl (yq_pick rfl (by (conv => lhs; whnf) <;> rfl) (by subst hb20e; ((conv => lhs; whnf) <;> rfl))) ?_
      exact QW.nil (SegM.mk (any_c (any_c (any_c (any_c (any_c any_n))))) (and_skip hb20 hb20e))
    · intro ρ27 b27 hA hb27
      obtain ⟨x22, x23, x24, x25, x26, rfl⟩ := hA
      refine QW.q rfl rfl (yq_assign rfl (by (conv => lhs; whnf) <;> rfl)) ?_
      refine QW.nil ?_
      refine hK3 _ _ ?_
      refine CW.ret ?_
      -- ret (ret)
      have hbe : b27 = decide (barredP p i now) := Bool.eq_iff_iff.2 (by
        rw [hb27, ← hbx, decide_eq_true_iff]
        unfold barredP
        by_cases h : inP p i
        · unfold stateX; rw [if_pos h, actE_in h]; simp [h]
        · rw [actE_out h]; simp [h])
      subst hbe
      exact fin1 (Or.inr rfl) rfl ⟨by decide, (by (conv => lhs; whnf) <;> rfl)⟩ (fun w hw => ⟨rfl, hw.sub (List.nil_sublist _)⟩)

end Go.Proofs.Ytahdekllphehkaa
