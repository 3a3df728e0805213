/- Peers made, asked, copied; no statement of the seat is proved here. -/
import Derived.Test.YtahdekllphehkaaA3
set_option linter.unusedVariables false
set_option linter.unusedSimpArgs false
namespace Go.Proofs.Ytahdekllphehkaa
open Go.WL Go.Spec

set_option maxRecDepth 100000 in
set_option maxHeartbeats 1000000 in
theorem next_calls (p : PS) (now : Int) (b b2 cap : Nat) {w0 w : World} {E : List Nat} {Lk : List Ent} (hok : p.ok)
    (hcl : Cl w0 E (.blk b [.slice (some ⟨b2, 0, none⟩) (p).l.length cap, .int .i64 ((p).last : Int)] 55 (0, 0) :: .row (some b2) cap (p).l.length 42 4 ((p).l.flatMap prC) :: Lk) w) : Calls Try.prog 19 #[.pointer (some ⟨b, 0, none⟩), .int .i64 now] w fun e w' => ∃ v L1, e = .returned v ∧ Cl w [b, b2] L1 w' ∧ v = nextV p now ∧ L1 = [.blk b [.slice (some ⟨b2, 0, none⟩) p.l.length cap, .int .i64 ((nextS p now).last : Int)] 55 (0, 0), .row (some b2) cap p.l.length 42 4 (p.l.flatMap prC)] := by
  have hl1 := hok.1
  have hl2 := hok.2.1
  have hl3 := hok.2.2.1
  refine calls_of_CW (L := [.blk b [.slice (some ⟨b2, 0, none⟩) (p).l.length cap, .int .i64 ((p).last : Int)] 55 (0, 0), .row (some b2) cap (p).l.length 42 4 ((p).l.flatMap prC)]) Try.func19 rfl (Nat.le_of_ble_eq_true rfl) (hcl.lent2) ?_
  refine CW.seq_k fun K1 hK1 => ?_
  refine CW.region ?_
  refine OW.q rfl rfl (yq_assign rfl (by (conv => lhs; whnf) <;> rfl)) ?_
  refine OW.q rfl rfl (yq_assign rfl (by (conv => lhs; whnf) <;> rfl)) ?_
  refine OW.nil ?_
  refine hK1 _ _ ?_
  refine CW.seq_k fun K2 hK2 => ?_
  refine CW.seq_k fun K3 hK3 => ?_
  refine CW.region ?_
  refine OW.q rfl rfl (yq_move rfl (by (conv => lhs; whnf) <;> rfl)) ?_
  refine OW.q rfl rfl (yq_call rfl rfl (.cons (by (conv => lhs; whnf) <;> rfl) .nil) en33 (fun w hw => none_ps p b b2 cap w (psAt_row hw (List.mem_cons_self ..) (List.mem_cons_of_mem _ (List.mem_cons_self ..))) hok)) ?_
  refine OW.nil ?_
  refine hK3 _ _ ?_
  refine CW.cond_f (by (conv => lhs; whnf) <;> rfl) ?_
  refine CW.skip ?_
  refine hK2 _ _ ?_
  refine CW.seq_k fun K4 hK4 => ?_
  refine CW.seq_k fun K5 hK5 => ?_
  refine CW.region ?_
  refine OW.q rfl rfl (yq_assign rfl (by (conv => lhs; whnf) <;> rfl)) ?_
  refine OW.nil ?_
  refine hK5 _ _ ?_
  refine CW.block ?_
  refine CW.loop (σ := Nat) (fun k ρ L => Has ρ [(0, .pointer (some ⟨b, 0, none⟩)), (1, .int .i64 now), (6, .int .i64 (k : Int))] ∧ 1 ≤ k ∧ k ≤ p.l.length + 1 ∧ nextI p now = nextF p (near now) (p.l.length + 1 - k) k ∧ L = [.blk b [.slice (some ⟨b2, 0, none⟩) (p).l.length cap, .int .i64 ((p).last : Int)] 55 (0, 0), .row (some b2) cap (p).l.length 42 4 ((p).l.flatMap prC)]) (fun k => p.l.length + 1 - k) (1) ?_ ?_
  · exact ⟨Has.mk ⟨(by (conv => lhs; whnf) <;> rfl), (by (conv => lhs; whnf) <;> rfl), (by (conv => lhs; whnf) <;> rfl), trivial⟩, by omega, by omega, rfl, rfl⟩
  · rintro k _ _ ⟨⟨ρ', rfl⟩, hk1, hk2, hnx, rfl⟩
    refine CW.seq_k fun K6 hK6 => ?_
    refine CW.seq_k fun K7 hK7 => ?_
    refine CW.region ?_
    refine OW.q rfl rfl (yq_move rfl (by (conv => lhs; whnf) <;> rfl)) ?_
    refine OW.q rfl rfl (yq_move rfl (by (conv => lhs; whnf) <;> rfl)) ?_
    refine OW.q rfl rfl (yq_nilCheck rfl (by (conv => lhs; whnf) <;> rfl)) ?_
    refine OW.q rfl rfl (yq_fieldAddr rfl (by (conv => lhs; whnf) <;> rfl) tf55_0 ti53) ?_
    refine OW.q rfl rfl (yq_load1 rfl (by (conv => lhs; whnf) <;> rfl) ti53 (by repeat' first | exact List.mem_cons_self .. | apply List.mem_cons_of_mem) (by rfl)) ?_
    refine OW.q rfl rfl (yq_len_slice rfl ts53 (by (conv => lhs; whnf) <;> rfl)) ?_
    refine OW.q rfl rfl (yq_leq rfl (by (conv => lhs; whnf) <;> rfl) (by (conv => lhs; whnf) <;> rfl)) ?_
    refine OW.nil ?_
    refine hK7 _ _ ?_
    refine CW.cond_dec (by (conv => lhs; whnf) <;> rfl) (fun hc2 => ?_) (fun hc2 => ?_)
    · obtain ⟨j, hj⟩ : ∃ j, j = (p.last + k) % p.l.length := ⟨_, rfl⟩
      have hjn : j < p.l.length := by rw [hj]; exact Nat.mod_lt _ (by omega)
      have hf : p.l.length + 1 - k = (p.l.length - k) + 1 := by omega
      refine CW.skip ?_
      refine hK6 _ _ ?_
      refine CW.seq_k fun K8 hK8 => ?_
      refine CW.block ?_
      refine CW.seq_k fun K9 hK9 => ?_
      refine CW.draw mixed (by kernel_rfl) ?_
      refine QW.q rfl rfl (yq_move rfl (by (conv => lhs; whnf) <;> rfl)) ?_
      refine QW.q rfl rfl (yq_nilCheck rfl (by (conv => lhs; whnf) <;> rfl)) ?_
      refine QW.q rfl rfl (yq_fieldAddr rfl (by (conv => lhs; whnf) <;> rfl) tf55_1 ti3) ?_
      refine QW.q rfl rfl (yq_load1 rfl (by (conv => lhs; whnf) <;> rfl) ti3 (by repeat' first | exact List.mem_cons_self .. | apply List.mem_cons_of_mem) (by rfl)) ?_
      refine QW.q rfl rfl (yq_move rfl (by (conv => lhs; whnf) <;> rfl)) ?_
      refine QW.q rfl rfl (yq_add rfl (by (conv => lhs; whnf) <;> rfl) (by (conv => lhs; whnf) <;> rfl) (by omega)) ?_
      refine QW.q rfl rfl (yq_move rfl (by (conv => lhs; whnf) <;> rfl)) ?_
      refine QW.q rfl rfl (yq_nilCheck rfl (by (conv => lhs; whnf) <;> rfl)) ?_
      refine QW.q rfl rfl (yq_fieldAddr rfl (by (conv => lhs; whnf) <;> rfl) tf55_0 ti53) ?_
      refine QW.q rfl rfl (yq_load1 rfl (by (conv => lhs; whnf) <;> rfl) ti53 (by repeat' first | exact List.mem_cons_self .. | apply List.mem_cons_of_mem) (by rfl)) ?_
      refine QW.q rfl rfl (yq_len_slice rfl ts53 (by (conv => lhs; whnf) <;> rfl)) ?_
      refine QW.q rfl rfl (yq_rem_e (r := (j : Int)) rfl (by (conv => lhs; whnf) <;> rfl) (by (conv => lhs; whnf) <;> rfl) (by omega) (by rw [hj]; exact tmod_nat _ _ _)) ?_
      refine QW.q rfl rfl (yq_assign rfl (by (conv => lhs; whnf) <;> rfl)) ?_
      refine QW.nil ?_
      refine hK9 _ _ ?_
      refine CW.seq_k fun K10 hK10 => ?_
      refine CW.draw mixed (by kernel_rfl) ?_
      refine QW.q rfl rfl (yq_move rfl (by (conv => lhs; whnf) <;> rfl)) ?_
      refine QW.q rfl rfl (yq_nilCheck rfl (by (conv => lhs; whnf) <;> rfl)) ?_
      refine QW.q rfl rfl (yq_fieldAddr rfl (by (conv => lhs; whnf) <;> rfl) tf55_0 ti53) ?_
      refine QW.q rfl rfl (yq_load1 rfl (by (conv => lhs; whnf) <;> rfl) ti53 (by repeat' first | exact List.mem_cons_self .. | apply List.mem_cons_of_mem) (by rfl)) ?_
      refine QW.q rfl rfl (yq_move rfl (by (conv => lhs; whnf) <;> rfl)) ?_
      refine QW.q rfl rfl (yq_index_slice rfl (by (conv => lhs; whnf) <;> rfl) (by (conv => lhs; whnf) <;> rfl) ts53 ti42 (by omega) (by omega)) ?_
      refine QW.q rfl rfl (yq_fieldAddr rfl (by (conv => lhs; whnf) <;> rfl) tf42_2 ti3) ?_
      refine QW.q rfl rfl (yq_load_c (v := .int .i64 (p.get j).upto) rfl (by (conv => lhs; whnf) <;> rfl) (fun w hw => run_load_one ti3 ((psAt_row hw (by repeat' first | exact List.mem_cons_self .. | apply List.mem_cons_of_mem) (by repeat' first | exact List.mem_cons_self .. | apply List.mem_cons_of_mem)).at1 hjn (by decide) rfl))) ?_
      refine QW.q rfl rfl (yq_move rfl (by (conv => lhs; whnf) <;> rfl)) ?_
      refine QW.q rfl rfl (yq_call rfl rfl (.cons (by (conv => lhs; whnf) <;> rfl) .nil) en32 (fun w hw => near_calls now w)) ?_
      refine QW.q rfl rfl (yq_leq rfl (by (conv => lhs; whnf) <;> rfl) (by (conv => lhs; whnf) <;> rfl)) ?_
      refine QW.nil ?_
      refine hK10 _ _ ?_
      refine CW.cond_dec (by (conv => lhs; whnf) <;> rfl) (fun hc4 => ?_) (fun hc4 => ?_)
      · refine CW.seq_k fun K11 hK11 => ?_
        refine CW.region ?_
        refine OW.q rfl rfl (yq_move rfl (by (conv => lhs; whnf) <;> rfl)) ?_
        refine OW.q rfl rfl (yq_move rfl (by (conv => lhs; whnf) <;> rfl)) ?_
        refine OW.q rfl rfl (yq_nilCheck rfl (by (conv => lhs; whnf) <;> rfl)) ?_
        refine OW.q rfl rfl (yq_fieldAddr rfl (by (conv => lhs; whnf) <;> rfl) tf55_1 ti3) ?_
        refine OW.store1 rfl rfl rfl (by (conv => lhs; whnf) <;> rfl) (by (conv => lhs; whnf) <;> rfl) ti3 (by rfl) (by repeat' first | exact Put.head | apply Put.tail) (by rfl) (Nat.le_of_ble_eq_true rfl) ?_
        refine OW.nil ?_
        refine hK11 _ _ ?_
        refine CW.seq_k fun K12 hK12 => ?_
        refine CW.region ?_
        refine OW.q rfl rfl (yq_move rfl (by (conv => lhs; whnf) <;> rfl)) ?_
        refine OW.q rfl rfl (yq_assign rfl (by (conv => lhs; whnf) <;> rfl)) ?_
        refine OW.q rfl rfl (yq_assign rfl (by (conv => lhs; whnf) <;> rfl)) ?_
        refine OW.nil ?_
        refine hK12 _ _ ?_
        refine CW.ret ?_
        refine blockQ_ret ?_
        refine then_ret ?_
        refine then_ret ?_
        refine blockQ_ret ?_
        refine then_ret ?_
        -- ret
        have hso : nextI p now = some j := by rw [hnx, hf, nextF_step, ← hj, if_pos hc4]
        obtain ⟨e1, e2⟩ := next_some hso
        rw [e1, e2]
        exact fin2 (Or.inr rfl) rfl ⟨by decide, (by (conv => lhs; whnf) <;> rfl)⟩ ⟨by decide, (by (conv => lhs; whnf) <;> rfl)⟩ (fun w hw => ⟨_, _, rfl, hw, rfl, rfl⟩)
      · refine CW.skip ?_
        refine hK8 _ _ ?_
        refine CW.region ?_
        refine OW.q rfl rfl (yq_move rfl (by (conv => lhs; whnf) <;> rfl)) ?_
        refine OW.q rfl rfl (yq_add rfl (by (conv => lhs; whnf) <;> rfl) (by (conv => lhs; whnf) <;> rfl) (by omega)) ?_
        refine OW.q rfl rfl (yq_assign rfl (by (conv => lhs; whnf) <;> rfl)) ?_
        refine OW.nil ?_
        exact ⟨k + 1, ⟨Has.mk ⟨(by (conv => lhs; whnf) <;> rfl), (by (conv => lhs; whnf) <;> rfl), (by (conv => lhs; whnf) <;> rfl), trivial⟩, by omega, by omega, by rw [hnx, hf, nextF_step, ← hj, if_neg hc4, show p.l.length + 1 - (k + 1) = p.l.length - k by omega], rfl⟩, by omega⟩
    · have hke : k = p.l.length + 1 := by omega
      have hno : nextI p now = none := by rw [hnx, hke, Nat.sub_self, nextF_none]
      refine CW.exit ?_
      refine then_exit ?_
      refine then_exit ?_
      refine blockQ_hit ?_
      refine hK4 _ _ ?_
      refine CW.seq_k fun K13 hK13 => ?_
      refine CW.region ?_
      refine OW.q rfl rfl (yq_assign rfl (by (conv => lhs; whnf) <;> rfl)) ?_
      refine OW.q rfl rfl (yq_assign rfl (by (conv => lhs; whnf) <;> rfl)) ?_
      refine OW.nil ?_
      refine hK13 _ _ ?_
      refine CW.ret ?_
      -- ret
      obtain ⟨e1, e2⟩ := next_none hno
      rw [e1, e2]
      exact fin2 (Or.inr rfl) rfl ⟨by decide, (by (conv => lhs; whnf) <;> rfl)⟩ ⟨by decide, (by (conv => lhs; whnf) <;> rfl)⟩ (fun w hw => ⟨_, _, rfl, hw, rfl, rfl⟩)

set_option maxRecDepth 100000 in
set_option maxHeartbeats 1000000 in
theorem next_none_calls (v : Value) (now : Int) (w : World) (hn : NoneAt w v) : Calls Try.prog 19 #[v, .int .i64 now] w fun e w' => e = .returned (.tuple #[.int .i64 0, .bool false]) ∧ Cl w [] [] w' := by
  refine calls_of_CW (L := []) Try.func19 rfl (Nat.le_of_ble_eq_true rfl) (Cl.refl _) ?_
  refine CW.seq_k fun K1 hK1 => ?_
  refine CW.region ?_
  refine OW.q rfl rfl (yq_assign rfl (by (conv => lhs; whnf) <;> rfl)) ?_
  refine OW.q rfl rfl (yq_assign rfl (by (conv => lhs; whnf) <;> rfl)) ?_
  refine OW.nil ?_
  refine hK1 _ _ ?_
  refine CW.seq_k fun K2 hK2 => ?_
  refine CW.seq_k fun K3 hK3 => ?_
  refine CW.region ?_
  refine OW.q rfl rfl (yq_move rfl (by (conv => lhs; whnf) <;> rfl)) ?_
  refine OW.q rfl rfl (yq_call rfl rfl (.cons (by (conv => lhs; whnf) <;> rfl) .nil) en33 (fun w hw => none_none _ w (hn.mono hw))) ?_
  refine OW.nil ?_
  refine hK3 _ _ ?_
  refine CW.cond_t (by (conv => lhs; whnf) <;> rfl) ?_
  refine CW.seq_k fun K4 hK4 => ?_
  refine CW.region ?_
  refine OW.q rfl rfl (yq_assign rfl (by (conv => lhs; whnf) <;> rfl)) ?_
  refine OW.q rfl rfl (yq_assign rfl (by (conv => lhs; whnf) <;> rfl)) ?_
  refine OW.nil ?_
  refine hK4 _ _ ?_
  refine CW.ret ?_
  refine then_ret ?_
  -- ret (ret)
  exact fin2 (Or.inr rfl) rfl ⟨by decide, (by (conv => lhs; whnf) <;> rfl)⟩ ⟨by decide, (by (conv => lhs; whnf) <;> rfl)⟩ (fun w hw => ⟨rfl, hw.sub (List.nil_sublist _)⟩)

set_option maxRecDepth 100000 in
set_option maxHeartbeats 1000000 in
theorem good_none_calls (v : Value) (i : Int) (w : World) (hn : NoneAt w v) : Calls Try.prog 15 #[v, .int .i64 i] w fun e w' => e = .returned (.int .i64 1) ∧ Cl w [] [] w' := by
  refine calls_of_CW (L := []) Try.func15 rfl (Nat.le_of_ble_eq_true rfl) (Cl.refl _) ?_
  refine CW.seq_k fun K1 hK1 => ?_
  refine CW.region ?_
  refine OW.q rfl rfl (yq_assign rfl (by (conv => lhs; whnf) <;> rfl)) ?_
  refine OW.nil ?_
  refine hK1 _ _ ?_
  refine CW.seq_k fun K2 hK2 => ?_
  refine CW.seq_k fun K3 hK3 => ?_
  refine CW.region ?_
  refine OW.q rfl rfl (yq_move rfl (by (conv => lhs; whnf) <;> rfl)) ?_
  refine OW.q rfl rfl (yq_move rfl (by (conv => lhs; whnf) <;> rfl)) ?_
  refine OW.q rfl rfl (yq_call rfl rfl (.cons (by (conv => lhs; whnf) <;> rfl) ( .cons (by (conv => lhs; whnf) <;> rfl) .nil)) en31 (fun w hw => check_none _ i w (hn.mono hw))) ?_
  refine OW.q rfl rfl (yq_assign rfl (by (conv => lhs; whnf) <;> rfl)) ?_
  refine OW.nil ?_
  refine hK3 _ _ ?_
  refine CW.seq_k fun K4 hK4 => ?_
  refine CW.region ?_
  refine OW.q rfl rfl (yq_move rfl (by (conv => lhs; whnf) <;> rfl)) ?_
  refine OW.q rfl rfl ((yq_neq rfl (by (conv => lhs; whnf) <;> rfl) (by (conv => lhs; whnf) <;> rfl)).to (v' := .bool true) (by simp)) ?_
  refine OW.nil ?_
  refine hK4 _ _ ?_
  refine CW.cond_t (by (conv => lhs; whnf) <;> rfl) ?_
  refine CW.seq_k fun K5 hK5 => ?_
  refine CW.region ?_
  refine OW.q rfl rfl (yq_move rfl (by (conv => lhs; whnf) <;> rfl)) ?_
  refine OW.q rfl rfl (yq_assign rfl (by (conv => lhs; whnf) <;> rfl)) ?_
  refine OW.nil ?_
  refine hK5 _ _ ?_
  refine CW.ret ?_
  refine then_ret ?_
  -- ret (ret)
  exact fin1 (Or.inr rfl) rfl ⟨by decide, (by (conv => lhs; whnf) <;> rfl)⟩ (fun w hw => ⟨rfl, hw.sub (List.nil_sublist _)⟩)

set_option maxRecDepth 100000 in
set_option maxHeartbeats 1000000 in
theorem late_none_calls (v : Value) (i : Int) (now : Int) (d : UInt8) (w : World) (hn : NoneAt w v) : Calls Try.prog 16 #[v, .int .i64 i, .int .i64 now, U8 d] w fun e w' => e = .returned (.int .i64 1) ∧ Cl w [] [] w' := by
  refine calls_of_CW (L := []) Try.func16 rfl (Nat.le_of_ble_eq_true rfl) (Cl.refl _) ?_
  refine CW.seq_k fun K1 hK1 => ?_
  refine CW.region ?_
  refine OW.q rfl rfl (yq_assign rfl (by (conv => lhs; whnf) <;> rfl)) ?_
  refine OW.nil ?_
  refine hK1 _ _ ?_
  refine CW.seq_k fun K2 hK2 => ?_
  refine CW.seq_k fun K3 hK3 => ?_
  refine CW.region ?_
  refine OW.q rfl rfl (yq_move rfl (by (conv => lhs; whnf) <;> rfl)) ?_
  refine OW.q rfl rfl (yq_move rfl (by (conv => lhs; whnf) <;> rfl)) ?_
  refine OW.q rfl rfl (yq_call rfl rfl (.cons (by (conv => lhs; whnf) <;> rfl) ( .cons (by (conv => lhs; whnf) <;> rfl) .nil)) en31 (fun w hw => check_none _ i w (hn.mono hw))) ?_
  refine OW.q rfl rfl (yq_assign rfl (by (conv => lhs; whnf) <;> rfl)) ?_
  refine OW.nil ?_
  refine hK3 _ _ ?_
  refine CW.seq_k fun K4 hK4 => ?_
  refine CW.region ?_
  refine OW.q rfl rfl (yq_move rfl (by (conv => lhs; whnf) <;> rfl)) ?_
  refine OW.q rfl rfl ((yq_neq rfl (by (conv => lhs; whnf) <;> rfl) (by (conv => lhs; whnf) <;> rfl)).to (v' := .bool true) (by simp)) ?_
  refine OW.nil ?_
  refine hK4 _ _ ?_
  refine CW.cond_t (by (conv => lhs; whnf) <;> rfl) ?_
  refine CW.seq_k fun K5 hK5 => ?_
  refine CW.region ?_
  refine OW.q rfl rfl (yq_move rfl (by (conv => lhs; whnf) <;> rfl)) ?_
  refine OW.q rfl rfl (yq_assign rfl (by (conv => lhs; whnf) <;> rfl)) ?_
  refine OW.nil ?_
  refine hK5 _ _ ?_
  refine CW.ret ?_
  refine then_ret ?_
  -- ret (ret)
  exact fin1 (Or.inr rfl) rfl ⟨by decide, (by (conv => lhs; whnf) <;> rfl)⟩ (fun w hw => ⟨rfl, hw.sub (List.nil_sublist _)⟩)

set_option maxRecDepth 100000 in
set_option maxHeartbeats 1000000 in
theorem bad_none_calls (v : Value) (i : Int) (now : Int) (w : World) (hn : NoneAt w v) : Calls Try.prog 17 #[v, .int .i64 i, .int .i64 now] w fun e w' => e = .returned (.int .i64 1) ∧ Cl w [] [] w' := by
  refine calls_of_CW (L := []) Try.func17 rfl (Nat.le_of_ble_eq_true rfl) (Cl.refl _) ?_
  refine CW.seq_k fun K1 hK1 => ?_
  refine CW.region ?_
  refine OW.q rfl rfl (yq_assign rfl (by (conv => lhs; whnf) <;> rfl)) ?_
  refine OW.nil ?_
  refine hK1 _ _ ?_
  refine CW.seq_k fun K2 hK2 => ?_
  refine CW.seq_k fun K3 hK3 => ?_
  refine CW.region ?_
  refine OW.q rfl rfl (yq_move rfl (by (conv => lhs; whnf) <;> rfl)) ?_
  refine OW.q rfl rfl (yq_move rfl (by (conv => lhs; whnf) <;> rfl)) ?_
  refine OW.q rfl rfl (yq_call rfl rfl (.cons (by (conv => lhs; whnf) <;> rfl) ( .cons (by (conv => lhs; whnf) <;> rfl) .nil)) en31 (fun w hw => check_none _ i w (hn.mono hw))) ?_
  refine OW.q rfl rfl (yq_assign rfl (by (conv => lhs; whnf) <;> rfl)) ?_
  refine OW.nil ?_
  refine hK3 _ _ ?_
  refine CW.seq_k fun K4 hK4 => ?_
  refine CW.region ?_
  refine OW.q rfl rfl (yq_move rfl (by (conv => lhs; whnf) <;> rfl)) ?_
  refine OW.q rfl rfl ((yq_neq rfl (by (conv => lhs; whnf) <;> rfl) (by (conv => lhs; whnf) <;> rfl)).to (v' := .bool true) (by simp)) ?_
  refine OW.nil ?_
  refine hK4 _ _ ?_
  refine CW.cond_t (by (conv => lhs; whnf) <;> rfl) ?_
  refine CW.seq_k fun K5 hK5 => ?_
  refine CW.region ?_
  refine OW.q rfl rfl (yq_move rfl (by (conv => lhs; whnf) <;> rfl)) ?_
  refine OW.q rfl rfl (yq_assign rfl (by (conv => lhs; whnf) <;> rfl)) ?_
  refine OW.nil ?_
  refine hK5 _ _ ?_
  refine CW.ret ?_
  refine then_ret ?_
  -- ret (ret)
  exact fin1 (Or.inr rfl) rfl ⟨by decide, (by (conv => lhs; whnf) <;> rfl)⟩ (fun w hw => ⟨rfl, hw.sub (List.nil_sublist _)⟩)

set_option maxRecDepth 100000 in
set_option maxHeartbeats 1000000 in
theorem idle_none_calls (v : Value) (i : Int) (now : Int) (w : World) (hn : NoneAt w v) : Calls Try.prog 18 #[v, .int .i64 i, .int .i64 now] w fun e w' => e = .returned (.int .i64 1) ∧ Cl w [] [] w' := by
  refine calls_of_CW (L := []) Try.func18 rfl (Nat.le_of_ble_eq_true rfl) (Cl.refl _) ?_
  refine CW.seq_k fun K1 hK1 => ?_
  refine CW.region ?_
  refine OW.q rfl rfl (yq_assign rfl (by (conv => lhs; whnf) <;> rfl)) ?_
  refine OW.nil ?_
  refine hK1 _ _ ?_
  refine CW.seq_k fun K2 hK2 => ?_
  refine CW.seq_k fun K3 hK3 => ?_
  refine CW.region ?_
  refine OW.q rfl rfl (yq_move rfl (by (conv => lhs; whnf) <;> rfl)) ?_
  refine OW.q rfl rfl (yq_move rfl (by (conv => lhs; whnf) <;> rfl)) ?_
  refine OW.q rfl rfl (yq_call rfl rfl (.cons (by (conv => lhs; whnf) <;> rfl) ( .cons (by (conv => lhs; whnf) <;> rfl) .nil)) en31 (fun w hw => check_none _ i w (hn.mono hw))) ?_
  refine OW.q rfl rfl (yq_assign rfl (by (conv => lhs; whnf) <;> rfl)) ?_
  refine OW.nil ?_
  refine hK3 _ _ ?_
  refine CW.seq_k fun K4 hK4 => ?_
  refine CW.region ?_
  refine OW.q rfl rfl (yq_move rfl (by (conv => lhs; whnf) <;> rfl)) ?_
  refine OW.q rfl rfl ((yq_neq rfl (by (conv => lhs; whnf) <;> rfl) (by (conv => lhs; whnf) <;> rfl)).to (v' := .bool true) (by simp)) ?_
  refine OW.nil ?_
  refine hK4 _ _ ?_
  refine CW.cond_t (by (conv => lhs; whnf) <;> rfl) ?_
  refine CW.seq_k fun K5 hK5 => ?_
  refine CW.region ?_
  refine OW.q rfl rfl (yq_move rfl (by (conv => lhs; whnf) <;> rfl)) ?_
  refine OW.q rfl rfl (yq_assign rfl (by (conv => lhs; whnf) <;> rfl)) ?_
  refine OW.nil ?_
  refine hK5 _ _ ?_
  refine CW.ret ?_
  refine then_ret ?_
  -- ret (ret)
  exact fin1 (Or.inr rfl) rfl ⟨by decide, (by (conv => lhs; whnf) <;> rfl)⟩ (fun w hw => ⟨rfl, hw.sub (List.nil_sublist _)⟩)

set_option maxRecDepth 100000 in
set_option maxHeartbeats 1000000 in
theorem new_bad (n : Int) (w : World) (hn : n < 1 ∨ 8 < n) : Calls Try.prog 14 #[.int .i64 n] w fun e w' => e = .returned (.tuple #[.pointer none, .int .i64 2]) ∧ Cl w [] [] w' := by
  refine calls_of_CW (L := []) Try.func14 rfl (Nat.le_of_ble_eq_true rfl) (Cl.refl _) ?_
  refine CW.seq_k fun K1 hK1 => ?_
  refine CW.region ?_
  refine OW.q rfl rfl (yq_assign rfl (by (conv => lhs; whnf) <;> rfl)) ?_
  refine OW.q rfl rfl (yq_assign rfl (by (conv => lhs; whnf) <;> rfl)) ?_
  refine OW.nil ?_
  refine hK1 _ _ ?_
  refine CW.seq_k fun K2 hK2 => ?_
  refine CW.seq_k fun K3 hK3 => ?_
  refine CW.region ?_
  refine OW.q rfl rfl (yq_move rfl (by (conv => lhs; whnf) <;> rfl)) ?_
  refine OW.qb rfl rfl (yq_lss rfl (by (conv => lhs; whnf) <;> rfl) (by (conv => lhs; whnf) <;> rfl)) (fun b5 hb5 => ?_)
  refine OW.q rfl rfl (yq_move rfl (by (conv => lhs; whnf) <;> rfl)) ?_
  apply OW.segOr 3 [7, 8] 9 hb5
  · intro hb5e
    refine QW.q (by subst hb5e; rfl) rfl (yq_move rfl (by (conv => lhs; whnf) <;> rfl)) ?_
    refine QW.qb (by subst hb5e; rfl) rfl (yq_gtr rfl (by (conv => lhs; whnf) <;> rfl) (by (conv => lhs; whnf) <;> rfl)) (fun b8 hb8 => ?_)
    refine QW.q rfl rfl (yq_pick rfl (by (conv => lhs; whnf) <;> rfl) (by subst hb5e; ((conv => lhs; whnf) <;> rfl))) ?_
    exact QW.nil (SegM.mk (any_c (any_c any_n)) (or_run hb5 hb5e hb8))
  · intro hb5e
    refine QW.skip (by subst hb5e; rfl) rfl ?_
    refine QW.skip (by subst hb5e; rfl) rfl ?_
    refine QW.q rfl rfl (yq_pick rfl (by (conv => lhs; whnf) <;> rfl) (by subst hb5e; ((conv => lhs; whnf) <;> rfl))) ?_
    exact QW.nil (SegM.mk (any_c (any_c any_n)) (or_skip hb5 hb5e))
  · intro ρ9 b9 hA hb9
    obtain ⟨x7, x8, rfl⟩ := hA
    refine OW.nil ?_
    refine hK3 _ _ ?_
    refine CW.condq (by (conv => lhs; whnf) <;> rfl) hb9 (fun hc0 => ?_) (fun hc0 => ?_)
    · refine CW.seq_k fun K4 hK4 => ?_
      refine CW.region ?_
      refine OW.q rfl rfl (yq_assign rfl (by (conv => lhs; whnf) <;> rfl)) ?_
      refine OW.q rfl rfl (yq_assign rfl (by (conv => lhs; whnf) <;> rfl)) ?_
      refine OW.nil ?_
      refine hK4 _ _ ?_
      refine CW.ret ?_
      refine then_ret ?_
      -- ret (ret)
      exact fin2 (Or.inr rfl) rfl ⟨by decide, (by (conv => lhs; whnf) <;> rfl)⟩ ⟨by decide, (by (conv => lhs; whnf) <;> rfl)⟩ (fun w hw => ⟨rfl, hw.sub (List.nil_sublist _)⟩)
    · exfalso; omega

set_option maxRecDepth 100000 in
set_option maxHeartbeats 1000000 in
theorem new_ok (n : Nat) (w : World) (h1 : 1 ≤ n) (h8 : n ≤ 8) : Calls Try.prog 14 #[.int .i64 (n : Int)] w fun e w' => ∃ v L1, e = .returned v ∧ Cl w [] L1 w' ∧ ∃ b b2, v = .tuple #[.pointer (some ⟨b, 0, none⟩), .int .i64 0] ∧
    L1 = [.blk b [.slice (some ⟨b2, 0, none⟩) n n, .int .i64 (((PS.new n).last : Nat) : Int)] 55 (0, 0), .row (some b2) n n 42 4 ((PS.new n).l.flatMap prC)] := by
  refine calls_of_CW (L := []) Try.func14 rfl (Nat.le_of_ble_eq_true rfl) (Cl.refl _) ?_
  refine CW.seq_k fun K1 hK1 => ?_
  refine CW.region ?_
  refine OW.q rfl rfl (yq_assign rfl (by (conv => lhs; whnf) <;> rfl)) ?_
  refine OW.q rfl rfl (yq_assign rfl (by (conv => lhs; whnf) <;> rfl)) ?_
  refine OW.nil ?_
  refine hK1 _ _ ?_
  refine CW.seq_k fun K2 hK2 => ?_
  refine CW.seq_k fun K3 hK3 => ?_
  refine CW.region ?_
  refine OW.q rfl rfl (yq_move rfl (by (conv => lhs; whnf) <;> rfl)) ?_
  refine OW.qb rfl rfl (yq_lss rfl (by (conv => lhs; whnf) <;> rfl) (by (conv => lhs; whnf) <;> rfl)) (fun b5 hb5 => ?_)
  refine OW.q rfl rfl (yq_move rfl (by (conv => lhs; whnf) <;> rfl)) ?_
  apply OW.segOr 3 [7, 8] 9 hb5
  · intro hb5e
    refine QW.q (by subst hb5e; rfl) rfl (yq_move rfl (by (conv => lhs; whnf) <;> rfl)) ?_
    refine QW.qb (by subst hb5e; rfl) rfl (yq_gtr rfl (by (conv => lhs; whnf) <;> rfl) (by (conv => lhs; whnf) <;> rfl)) (fun b8 hb8 => ?_)
    refine QW.q rfl rfl (yq_pick rfl (by (conv => lhs; whnf) <;> rfl) (by subst hb5e; ((conv => lhs; whnf) <;> rfl))) ?_
    exact QW.nil (SegM.mk (any_c (any_c any_n)) (or_run hb5 hb5e hb8))
  · intro hb5e
    refine QW.skip (by subst hb5e; rfl) rfl ?_
    refine QW.skip (by subst hb5e; rfl) rfl ?_
    refine QW.q rfl rfl (yq_pick rfl (by (conv => lhs; whnf) <;> rfl) (by subst hb5e; ((conv => lhs; whnf) <;> rfl))) ?_
    exact QW.nil (SegM.mk (any_c (any_c any_n)) (or_skip hb5 hb5e))
  · intro ρ9 b9 hA hb9
    obtain ⟨x7, x8, rfl⟩ := hA
    refine OW.nil ?_
    refine hK3 _ _ ?_
    refine CW.condq (by (conv => lhs; whnf) <;> rfl) hb9 (fun hc0 => ?_) (fun hc0 => ?_)
    · exfalso; omega
    · refine CW.skip ?_
      refine hK2 _ _ ?_
      refine CW.seq_k fun K4 hK4 => ?_
      refine CW.region ?_
      refine OW.q rfl rfl (yq_move rfl (by (conv => lhs; whnf) <;> rfl)) ?_
      refine OW.make (zs := prC Pr.zero) rfl rfl rfl (by (conv => lhs; whnf) <;> rfl) (by (conv => lhs; whnf) <;> rfl) ts53 ti42 tz42 (by omega) (by omega) (by omega) (cs := (PS.new n).l.flatMap prC) (by rw [Int.toNat_natCast]; exact made_pr h1 h8) (fun b11 => ?_)
      refine OW.toRow (k := n) (size := 4) .head (by rw [prl_length, new_len]) (by simp only [maxLen]; omega) ?_
      refine OW.q rfl rfl (yq_move rfl (by (conv => lhs; whnf) <;> rfl)) ?_
      refine OW.q rfl rfl (yq_sub_e (r := ((n - 1 : Nat) : Int)) rfl (by (conv => lhs; whnf) <;> rfl) (by (conv => lhs; whnf) <;> rfl) (by rw [wrap64_in (by omega)]; omega)) ?_
      refine OW.q rfl rfl (yq_build (cs := [.slice (some ⟨b11, 0, none⟩) n n, .int .i64 ((n - 1 : Nat) : Int)]) rfl rfl (by kernel_rfl)) ?_
      refine OW.box (cs := [.slice (some ⟨b11, 0, none⟩) n n, .int .i64 ((n - 1 : Nat) : Int)]) rfl rfl rfl (by (conv => lhs; whnf) <;> rfl) rfl (fun b15 => ?_)
      refine OW.q rfl rfl (yq_assign rfl (by (conv => lhs; whnf) <;> rfl)) ?_
      refine OW.q rfl rfl (yq_assign rfl (by (conv => lhs; whnf) <;> rfl)) ?_
      refine OW.nil ?_
      refine hK4 _ _ ?_
      refine CW.ret ?_
      -- ret (ret)
      exact fin2 (Or.inr rfl) rfl ⟨by decide, (by (conv => lhs; whnf) <;> rfl)⟩ ⟨by decide, (by (conv => lhs; whnf) <;> rfl)⟩ (fun w hw => ⟨_, _, rfl, hw, b15, b11, rfl, rfl⟩)

set_option maxRecDepth 100000 in
set_option maxHeartbeats 1000000 in
theorem clonep_calls (l : List Pr) (b2 cap : Nat) (w : World) (hl1 : 1 ≤ l.length) (hl8 : l.length ≤ 8) (hr : ∀ j q, (l.flatMap prC)[j]? = some q → w.cell? ⟨b2, j, none⟩ = some q) :
    Calls Try.prog 37 #[.slice (some ⟨b2, 0, none⟩) l.length cap] w fun e w' => ∃ v L1, e = .returned v ∧ Cl w [] L1 w' ∧ ∃ c k, v = .slice (some ⟨c, 0, none⟩) l.length k ∧ L1 = [.row (some c) k l.length 42 4 (l.flatMap prC)] := by
  refine calls_of_CW (L := []) Try.func37 rfl (Nat.le_of_ble_eq_true rfl) (Cl.refl _) ?_
  refine CW.seq_k fun K1 hK1 => ?_
  refine CW.region ?_
  refine OW.q rfl rfl (yq_assign rfl (by (conv => lhs; whnf) <;> rfl)) ?_
  refine OW.nil ?_
  refine hK1 _ _ ?_
  refine CW.seq_k fun K2 hK2 => ?_
  refine CW.seq_k fun K3 hK3 => ?_
  refine CW.region ?_
  refine OW.q rfl rfl (yq_move rfl (by (conv => lhs; whnf) <;> rfl)) ?_
  refine OW.q rfl rfl ((yq_eql_slnil rfl (by (conv => lhs; whnf) <;> rfl) (by (conv => lhs; whnf) <;> rfl) Try.underlying53).to (v' := .bool false) rfl) ?_
  refine OW.nil ?_
  refine hK3 _ _ ?_
  refine CW.cond_f (by (conv => lhs; whnf) <;> rfl) ?_
  refine CW.skip ?_
  refine hK2 _ _ ?_
  refine CW.seq_k fun K4 hK4 => ?_
  refine CW.region ?_
  refine OW.sliceempty rfl rfl rfl ts53 ti42 (fun b5 => ?_)
  refine OW.q rfl rfl (yq_move rfl (by (conv => lhs; whnf) <;> rfl)) ?_
  refine OW.fresh (news := l.flatMap prC) rfl rfl rfl (by (conv => lhs; whnf) <;> rfl) (by (conv => lhs; whnf) <;> rfl) ts53 ti42 tz42 (fun w1 hw1 j u hu => by rw [add_mk, Nat.zero_add]; exact cell_keep hw1 (hr j u hu) (by simp)) (prl_length l) rfl (by decide) (by omega) (by simp only [maxLen]; omega) (by omega) (fun c k => ?_)
  refine OW.q rfl rfl (yq_assign rfl (by (conv => lhs; whnf) <;> rfl)) ?_
  refine OW.nil ?_
  refine hK4 _ _ ?_
  refine CW.ret ?_
  -- ret (ret)
  exact fin1 (Or.inr rfl) rfl ⟨by decide, (by (conv => lhs; whnf) <;> rfl)⟩ (fun w hw => ⟨_, [.row (some c) k l.length 42 4 (l.flatMap prC)], rfl, hw.sub (by repeat' first | exact List.Sublist.refl _ | exact List.nil_sublist _ | apply List.Sublist.cons_cons | apply List.Sublist.cons), c, k, rfl, rfl⟩)

set_option maxRecDepth 100000 in
set_option maxHeartbeats 1000000 in
theorem copy_none (v : Value) (w : World) (hn : NoneAt w v) : Calls Try.prog 27 #[v] w fun e w' => e = .returned (.pointer none) ∧ Cl w [] [] w' := by
  refine calls_of_CW (L := []) Try.func27 rfl (Nat.le_of_ble_eq_true rfl) (Cl.refl _) ?_
  refine CW.seq_k fun K1 hK1 => ?_
  refine CW.region ?_
  refine OW.q rfl rfl (yq_assign rfl (by (conv => lhs; whnf) <;> rfl)) ?_
  refine OW.nil ?_
  refine hK1 _ _ ?_
  refine CW.seq_k fun K2 hK2 => ?_
  refine CW.seq_k fun K3 hK3 => ?_
  refine CW.region ?_
  refine OW.q rfl rfl (yq_move rfl (by (conv => lhs; whnf) <;> rfl)) ?_
  refine OW.q rfl rfl (yq_call rfl rfl (.cons (by (conv => lhs; whnf) <;> rfl) .nil) en33 (fun w hw => none_none _ w (hn.mono hw))) ?_
  refine OW.nil ?_
  refine hK3 _ _ ?_
  refine CW.cond_t (by (conv => lhs; whnf) <;> rfl) ?_
  refine CW.seq_k fun K4 hK4 => ?_
  refine CW.region ?_
  refine OW.q rfl rfl (yq_assign rfl (by (conv => lhs; whnf) <;> rfl)) ?_
  refine OW.nil ?_
  refine hK4 _ _ ?_
  refine CW.ret ?_
  refine then_ret ?_
  -- ret (ret)
  exact fin1 (Or.inr rfl) rfl ⟨by decide, (by (conv => lhs; whnf) <;> rfl)⟩ (fun w hw => ⟨rfl, hw.sub (List.nil_sublist _)⟩)

set_option maxRecDepth 100000 in
set_option maxHeartbeats 1000000 in
theorem copy_ps (p : PS) (b b2 cap : Nat) (w : World) (hp : PsAt w b b2 cap p) (hok : p.ok) : Calls Try.prog 27 #[.pointer (some ⟨b, 0, none⟩)] w fun e w' => ∃ v L1, e = .returned v ∧ Cl w [] L1 w' ∧ ∃ c c2 k, v = .pointer (some ⟨c, 0, none⟩) ∧
    L1 = [.blk c [.slice (some ⟨c2, 0, none⟩) (p).l.length k, .int .i64 ((p).last : Int)] 55 (0, 0), .row (some c2) k (p).l.length 42 4 ((p).l.flatMap prC)] := by
  have hl1 := hok.1
  have hl2 := hok.2.1
  refine calls_of_CW (L := []) Try.func27 rfl (Nat.le_of_ble_eq_true rfl) (Cl.refl _) ?_
  refine CW.seq_k fun K1 hK1 => ?_
  refine CW.region ?_
  refine OW.q rfl rfl (yq_assign rfl (by (conv => lhs; whnf) <;> rfl)) ?_
  refine OW.nil ?_
  refine hK1 _ _ ?_
  refine CW.seq_k fun K2 hK2 => ?_
  refine CW.seq_k fun K3 hK3 => ?_
  refine CW.region ?_
  refine OW.q rfl rfl (yq_move rfl (by (conv => lhs; whnf) <;> rfl)) ?_
  refine OW.q rfl rfl (yq_call rfl rfl (.cons (by (conv => lhs; whnf) <;> rfl) .nil) en33 (fun w hw => none_ps p b b2 cap w (hp.mono hw) hok)) ?_
  refine OW.nil ?_
  refine hK3 _ _ ?_
  refine CW.cond_f (by (conv => lhs; whnf) <;> rfl) ?_
  refine CW.skip ?_
  refine hK2 _ _ ?_
  refine CW.seq_k fun K4 hK4 => ?_
  refine CW.held ([]) mixed ?_
  refine HW.take 0 rfl (by kernel_rfl) (by kernel_rfl) (by kernel_rfl) rfl rfl (by repeat' first | exact List.Sublist.refl _ | exact List.nil_sublist _ | apply List.Sublist.cons_cons | apply List.Sublist.cons) (yv_of_yq rfl (yq_move rfl (by (conv => lhs; whnf) <;> rfl))) ?_
  refine HW.take 1 rfl (by kernel_rfl) (by kernel_rfl) (by kernel_rfl) rfl rfl (by repeat' first | exact List.Sublist.refl _ | exact List.nil_sublist _ | apply List.Sublist.cons_cons | apply List.Sublist.cons) (yv_nilCheck rfl (by (conv => lhs; whnf) <;> rfl)) ?_
  refine HW.take 2 rfl (by kernel_rfl) (by kernel_rfl) (by kernel_rfl) rfl rfl (by repeat' first | exact List.Sublist.refl _ | exact List.nil_sublist _ | apply List.Sublist.cons_cons | apply List.Sublist.cons) (yv_of_yq rfl (yq_fieldAddr rfl (by (conv => lhs; whnf) <;> rfl) tf55_0 ti53)) ?_
  refine HW.take 3 rfl (by kernel_rfl) (by kernel_rfl) (by kernel_rfl) rfl rfl (by repeat' first | exact List.Sublist.refl _ | exact List.nil_sublist _ | apply List.Sublist.cons_cons | apply List.Sublist.cons) (yv_of_yq rfl (yq_load_c (v := .slice (some ⟨b2, 0, none⟩) p.l.length cap) rfl (by (conv => lhs; whnf) <;> rfl) (fun w hw => run_load_one ti53 (hp.mono hw).c0))) ?_
  refine HW.take 5 rfl (by kernel_rfl) (by kernel_rfl) (by kernel_rfl) rfl rfl (by repeat' first | exact List.Sublist.refl _ | exact List.nil_sublist _ | apply List.Sublist.cons_cons | apply List.Sublist.cons) (yv_of_yq rfl (yq_move rfl (by (conv => lhs; whnf) <;> rfl))) ?_
  refine HW.take 6 rfl (by kernel_rfl) (by kernel_rfl) (by kernel_rfl) rfl rfl (by repeat' first | exact List.Sublist.refl _ | exact List.nil_sublist _ | apply List.Sublist.cons_cons | apply List.Sublist.cons) (yv_nilCheck rfl (by (conv => lhs; whnf) <;> rfl)) ?_
  refine HW.take 7 rfl (by kernel_rfl) (by kernel_rfl) (by kernel_rfl) rfl rfl (by repeat' first | exact List.Sublist.refl _ | exact List.nil_sublist _ | apply List.Sublist.cons_cons | apply List.Sublist.cons) (yv_of_yq rfl (yq_fieldAddr rfl (by (conv => lhs; whnf) <;> rfl) tf55_1 ti3)) ?_
  refine HW.take 8 rfl (by kernel_rfl) (by kernel_rfl) (by kernel_rfl) rfl rfl (by repeat' first | exact List.Sublist.refl _ | exact List.nil_sublist _ | apply List.Sublist.cons_cons | apply List.Sublist.cons) (yv_of_yq rfl (yq_load_c (v := .int .i64 (p.last : Int)) rfl (by (conv => lhs; whnf) <;> rfl) (fun w hw => run_load_one ti3 (hp.mono hw).c1))) ?_
  refine HW.one 4 (by kernel_rfl) rfl ?_
  refine OW.calln rfl rfl rfl (by (conv => lhs; whnf) <;> rfl) (.cons (by (conv => lhs; whnf) <;> rfl) .nil) en37 (fun w hw => clonep_calls p.l b2 cap w hl1 hl2 (hp.mono hw).row) ?_
  rintro _ _ ⟨c, k, rfl, rfl⟩
  refine OW.nil ⟨rfl, (by repeat' first | exact List.Sublist.refl _ | exact List.nil_sublist _ | apply List.Sublist.cons_cons | apply List.Sublist.cons), ?_⟩
  refine HW.take 9 rfl (by kernel_rfl) (by kernel_rfl) (by kernel_rfl) rfl rfl (by repeat' first | exact List.Sublist.refl _ | exact List.nil_sublist _ | apply List.Sublist.cons_cons | apply List.Sublist.cons) (yv_of_yq rfl (yq_build (cs := [.slice (some ⟨c, 0, none⟩) p.l.length k, .int .i64 (p.last : Int)]) rfl rfl (by kernel_rfl))) ?_
  refine HW.one 10 (by kernel_rfl) rfl ?_
  refine OW.box (cs := [.slice (some ⟨c, 0, none⟩) p.l.length k, .int .i64 (p.last : Int)]) rfl rfl rfl (by (conv => lhs; whnf) <;> rfl) rfl (fun b15 => ?_)
  refine OW.nil ⟨rfl, (by repeat' first | exact List.Sublist.refl _ | exact List.nil_sublist _ | apply List.Sublist.cons_cons | apply List.Sublist.cons), ?_⟩
  refine HW.take 11 rfl (by kernel_rfl) (by kernel_rfl) (by kernel_rfl) rfl rfl (by repeat' first | exact List.Sublist.refl _ | exact List.nil_sublist _ | apply List.Sublist.cons_cons | apply List.Sublist.cons) (yv_of_yq rfl (yq_assign rfl (by (conv => lhs; whnf) <;> rfl))) ?_
  refine HW.done (by kernel_rfl) ?_
  refine hK4 _ _ ?_
  refine CW.ret ?_
  -- ret (ret)
  exact fin1 (Or.inr rfl) rfl ⟨by decide, (by (conv => lhs; whnf) <;> rfl)⟩ (fun w hw => ⟨_, _, rfl, hw, b15, c, k, rfl, rfl⟩)

end Go.Proofs.Ytahdekllphehkaa
