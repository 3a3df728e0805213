/- The reference, peers turned; no statement of the seat is proved here. -/
import Derived.Test.YtahdekllphehkaaA6
import Derived.Test.YtahdekllphehkaaS4
set_option linter.unusedVariables false
set_option linter.unusedSimpArgs false
namespace Go.Proofs.Ytahdekllphehkaa
open Go.WL Go.Spec

set_option maxRecDepth 100000 in
set_option maxHeartbeats 1000000 in
theorem rnear_calls (t : Int) (w : World) : Calls Try.prog 36 #[.int .i64 t] w fun e w' => e = .returned (.int .i64 (near t)) ∧ Cl w [] [] w' := by
  refine calls_of_CW (L := []) Try.func36 rfl (Nat.le_of_ble_eq_true rfl) (Cl.refl _) ?_
  refine CW.seq_k fun K1 hK1 => ?_
  refine CW.region ?_
  refine OW.q rfl rfl (yq_assign rfl (by (conv => lhs; whnf) <;> rfl)) ?_
  refine OW.nil ?_
  refine hK1 _ _ ?_
  refine CW.seq_k fun K2 hK2 => ?_
  refine CW.seq_k fun K3 hK3 => ?_
  refine CW.region ?_
  refine OW.q rfl rfl (yq_move rfl (by (conv => lhs; whnf) <;> rfl)) ?_
  refine OW.q rfl rfl (yq_lss rfl (by (conv => lhs; whnf) <;> rfl) (by (conv => lhs; whnf) <;> rfl)) ?_
  refine OW.nil ?_
  refine hK3 _ _ ?_
  refine CW.cond_dec (by (conv => lhs; whnf) <;> rfl) (fun hc0 => ?_) (fun hc0 => ?_)
  · refine CW.seq_k fun K4 hK4 => ?_
    refine CW.region ?_
    refine OW.q rfl rfl (yq_assign rfl (by (conv => lhs; whnf) <;> rfl)) ?_
    refine OW.nil ?_
    refine hK4 _ _ ?_
    refine CW.ret ?_
    refine then_ret ?_
    -- ret (ret)
    rw [show near t = 0 by unfold near; omega]
    exact fin1 (Or.inr rfl) rfl ⟨by decide, (by (conv => lhs; whnf) <;> rfl)⟩ (fun w hw => ⟨rfl, hw.sub (List.nil_sublist _)⟩)
  · refine CW.skip ?_
    refine hK2 _ _ ?_
    refine CW.seq_k fun K5 hK5 => ?_
    refine CW.region ?_
    refine OW.q rfl rfl (yq_move rfl (by (conv => lhs; whnf) <;> rfl)) ?_
    refine OW.q rfl rfl (yq_min (r := near t) rfl (by (conv => lhs; whnf) <;> rfl) (by (conv => lhs; whnf) <;> rfl) (by unfold near; omega)) ?_
    refine OW.q rfl rfl (yq_assign rfl (by (conv => lhs; whnf) <;> rfl)) ?_
    refine OW.nil ?_
    refine hK5 _ _ ?_
    refine CW.ret ?_
    -- ret (ret)
    exact fin1 (Or.inr rfl) rfl ⟨by decide, (by (conv => lhs; whnf) <;> rfl)⟩ (fun w hw => ⟨rfl, hw.sub (List.nil_sublist _)⟩)

set_option maxRecDepth 100000 in
set_option maxHeartbeats 1000000 in
theorem is_calls (p : PS) (i : Int) (b b2 cap : Nat) (w : World) (hp : PsAt w b b2 cap p) : Calls Try.prog 34 #[.pointer (some ⟨b, 0, none⟩), .int .i64 i] w fun e w' => e = .returned (.bool (decide (inP p i))) ∧ Cl w [] [] w' := by
  refine calls_of_CW (L := []) Try.func34 rfl (Nat.le_of_ble_eq_true rfl) (Cl.refl _) ?_
  refine CW.seq_k fun K1 hK1 => ?_
  refine CW.region ?_
  refine OW.q rfl rfl (yq_assign rfl (by (conv => lhs; whnf) <;> rfl)) ?_
  refine OW.nil ?_
  refine hK1 _ _ ?_
  refine CW.seq_k fun K2 hK2 => ?_
  refine CW.region ?_
  refine OW.q rfl rfl (yq_move rfl (by (conv => lhs; whnf) <;> rfl)) ?_
  refine OW.qb rfl rfl (yq_geq rfl (by (conv => lhs; whnf) <;> rfl) (by (conv => lhs; whnf) <;> rfl)) (fun b6 hb6 => ?_)
  refine OW.q rfl rfl (yq_move rfl (by (conv => lhs; whnf) <;> rfl)) ?_
  apply OW.segAnd 8 [8, 9, 10, 11, 12, 13, 14] 15 hb6
  · intro hb6e
    refine QW.q (by subst hb6e; rfl) rfl (yq_move rfl (by (conv => lhs; whnf) <;> rfl)) ?_
    refine QW.q (by subst hb6e; rfl) rfl (yq_move rfl (by (conv => lhs; whnf) <;> rfl)) ?_
    refine QW.q (by subst hb6e; rfl) rfl (yq_nilCheck rfl (by (conv => lhs; whnf) <;> rfl)) ?_
    refine QW.q (by subst hb6e; rfl) rfl (yq_fieldAddr rfl (by (conv => lhs; whnf) <;> rfl) tf60_0 ti58) ?_
    refine QW.q (by subst hb6e; rfl) rfl (yq_load_c (v := .slice (some ⟨b2, 0, none⟩) p.l.length cap) rfl (by (conv => lhs; whnf) <;> rfl) (fun w hw => run_load_one ti58 (hp.mono hw).c0)) ?_
    refine QW.q (by subst hb6e; rfl) rfl (yq_len_slice rfl ts58 (by (conv => lhs; whnf) <;> rfl)) ?_
    refine QW.qb (by subst hb6e; rfl) rfl (yq_lss rfl (by (conv => lhs; whnf) <;> rfl) (by (conv => lhs; whnf) <;> rfl)) (fun b14 hb14 => ?_)
    refine QW.q rfl rfl (yq_pick rfl (by (conv => lhs; whnf) <;> rfl) (by subst hb6e; ((conv => lhs; whnf) <;> rfl))) ?_
    exact QW.nil (SegM.mk (any_c (any_c (any_c (any_c (any_c (any_c (any_c any_n))))))) (and_run hb6 hb6e hb14))
  · intro hb6e
    refine QW.skip (by subst hb6e; rfl) rfl ?_
    refine QW.skip (by subst hb6e; rfl) rfl ?_
    refine QW.skip (by subst hb6e; rfl) rfl ?_
    refine QW.skip (by subst hb6e; rfl) rfl ?_
    refine QW.skip (by subst hb6e; rfl) rfl ?_
    refine QW.skip (by subst hb6e; rfl) rfl ?_
    refine QW.skip (by subst hb6e; rfl) rfl ?_
    refine QW.q rfl rfl (yq_pick rfl (by (conv => lhs; whnf) <;> rfl) (by subst hb6e; ((conv => lhs; whnf) <;> rfl))) ?_
    exact QW.nil (SegM.mk (any_c (any_c (any_c (any_c (any_c (any_c (any_c any_n))))))) (and_skip hb6 hb6e))
  · intro ρ15 b15 hA hb15
    obtain ⟨x8, x9, x10, x11, x12, x13, x14, rfl⟩ := hA
    refine OW.q rfl rfl (yq_assign rfl (by (conv => lhs; whnf) <;> rfl)) ?_
    refine OW.nil ?_
    refine hK2 _ _ ?_
    refine CW.ret ?_
    -- ret (ret)
    have hbe : b15 = decide (inP p i) := Bool.eq_iff_iff.2 (by rw [hb15, decide_eq_true_iff]; exact Iff.rfl)
    subst hbe
    exact fin1 (Or.inr rfl) rfl ⟨by decide, (by (conv => lhs; whnf) <;> rfl)⟩ (fun w hw => ⟨rfl, hw.sub (List.nil_sublist _)⟩)

set_option maxRecDepth 100000 in
set_option maxHeartbeats 1000000 in
theorem with_calls (p : PS) (k : Nat) (x : Pr) (b b2 cap : Nat) {w0 w : World} {E : List Nat} {Lk : List Ent} (hok : p.ok) (hk : k < p.l.length)
    (hcl : Cl w0 E (.blk b [.slice (some ⟨b2, 0, none⟩) (p).l.length cap, .int .i64 ((p).last : Int)] 60 (0, 0) :: .row (some b2) cap (p).l.length 61 4 ((p).l.flatMap prC) :: Lk) w) : Calls Try.prog 35 #[.pointer (some ⟨b, 0, none⟩), .int .i64 (k : Int), .agg (prC x).toArray] w fun e w' => ∃ v L1, e = .returned v ∧ Cl w [b, b2] L1 w' ∧ v = .int .i64 0 ∧ ∃ b3 c3, L1 = [.blk b [.slice (some ⟨b3, 0, none⟩) p.l.length c3, .int .i64 (p.last : Int)] 60 (0, 0), .row (some b3) c3 p.l.length 61 4 ((p.set k x).l.flatMap prC)] := by
  have hl1 := hok.1
  have hl2 := hok.2.1
  refine calls_of_CW (L := [.blk b [.slice (some ⟨b2, 0, none⟩) (p).l.length cap, .int .i64 ((p).last : Int)] 60 (0, 0), .row (some b2) cap (p).l.length 61 4 ((p).l.flatMap prC)]) Try.func35 rfl (Nat.le_of_ble_eq_true rfl) (hcl.lent2) ?_
  refine CW.seq_k fun K1 hK1 => ?_
  refine CW.region ?_
  refine OW.box (cs := prC x) rfl rfl rfl (by (conv => lhs; whnf) <;> rfl) rfl (fun b5 => ?_)
  refine OW.q rfl rfl (yq_assign rfl (by (conv => lhs; whnf) <;> rfl)) ?_
  refine OW.nil ?_
  refine hK1 _ _ ?_
  refine CW.seq_k fun K2 hK2 => ?_
  refine CW.region ?_
  refine OW.q rfl rfl (yq_move rfl (by (conv => lhs; whnf) <;> rfl)) ?_
  refine OW.q rfl rfl (yq_move rfl (by (conv => lhs; whnf) <;> rfl)) ?_
  refine OW.q rfl rfl (yq_nilCheck rfl (by (conv => lhs; whnf) <;> rfl)) ?_
  refine OW.q rfl rfl (yq_fieldAddr rfl (by (conv => lhs; whnf) <;> rfl) tf60_0 ti58) ?_
  refine OW.q rfl rfl (yq_load1 rfl (by (conv => lhs; whnf) <;> rfl) ti58 (by repeat' first | exact List.mem_cons_self .. | apply List.mem_cons_of_mem) (by rfl)) ?_
  refine OW.fresh (news := p.l.flatMap prC) rfl rfl rfl (by (conv => lhs; whnf) <;> rfl) (by (conv => lhs; whnf) <;> rfl) ts58 ti61 tz61 (fun w1 hw1 j u hu => by rw [add_mk, Nat.zero_add]; exact (psAt_row hw1 (by repeat' first | exact List.mem_cons_self .. | apply List.mem_cons_of_mem) (by repeat' first | exact List.mem_cons_self .. | apply List.mem_cons_of_mem)).row j u hu) (prl_length p.l) rfl (by decide) (by omega) (by simp only [maxLen]; omega) (by omega) (fun b3 c3 => ?_)
  refine OW.q rfl rfl (yq_nilCheck rfl (by (conv => lhs; whnf) <;> rfl)) ?_
  refine OW.q rfl rfl (yq_fieldAddr rfl (by (conv => lhs; whnf) <;> rfl) tf60_0 ti58) ?_
  refine OW.store1 rfl rfl rfl (by (conv => lhs; whnf) <;> rfl) (by (conv => lhs; whnf) <;> rfl) ti58 (by rfl) (by repeat' first | exact Put.head | apply Put.tail) (by rfl) (Nat.le_of_ble_eq_true rfl) ?_
  refine OW.nil ?_
  refine hK2 _ _ ?_
  refine CW.seq_k fun K3 hK3 => ?_
  refine CW.drawT 7 mixed (by kernel_rfl) ?_
  refine QW.q rfl rfl (yq_move rfl (by (conv => lhs; whnf) <;> rfl)) ?_
  refine QW.q rfl rfl (yq_nilCheck rfl (by (conv => lhs; whnf) <;> rfl)) ?_
  refine QW.q rfl rfl (yq_fieldAddr rfl (by (conv => lhs; whnf) <;> rfl) tf60_0 ti58) ?_
  refine QW.q rfl rfl (yq_load1 rfl (by (conv => lhs; whnf) <;> rfl) ti58 (by repeat' first | exact List.mem_cons_self .. | apply List.mem_cons_of_mem) (by rfl)) ?_
  refine QW.q rfl rfl (yq_move rfl (by (conv => lhs; whnf) <;> rfl)) ?_
  refine QW.q rfl rfl ((yq_loadW (cs := prC x) rfl (by (conv => lhs; whnf) <;> rfl) ti61 (by repeat' first | exact List.mem_cons_self .. | apply List.mem_cons_of_mem))) ?_
  refine QW.q rfl rfl (yq_index_slice rfl (by (conv => lhs; whnf) <;> rfl) (by (conv => lhs; whnf) <;> rfl) ts58 ti61 (by omega) (by omega)) ?_
  refine QW.nil ?_
  refine OW.storeR (vs := prC x) rfl rfl rfl (by (conv => lhs; whnf) <;> rfl) (by (conv => lhs; whnf) <;> rfl) ti61 rfl (prC_one _) (by repeat' first | exact Put.head | apply Put.tail) (pr_setA hk) (by rw [prl_length, Int.toNat_natCast, prC_length]; omega) ?_
  refine OW.nil ?_
  refine hK3 _ _ ?_
  refine CW.seq_k fun K4 hK4 => ?_
  refine CW.region ?_
  refine OW.q rfl rfl (yq_assign rfl (by (conv => lhs; whnf) <;> rfl)) ?_
  refine OW.nil ?_
  refine hK4 _ _ ?_
  refine CW.ret ?_
  -- ret (ret)
  exact fin1 (Or.inr rfl) rfl ⟨by decide, (by (conv => lhs; whnf) <;> rfl)⟩ (fun w hw => ⟨_, _, rfl, clW hw, rfl, b3, c3, rfl⟩)

set_option maxRecDepth 100000 in
set_option maxHeartbeats 1000000 in
theorem rgood_calls (p : PS) (i : Int) (b b2 cap : Nat) {w0 w : World} {E : List Nat} {Lk : List Ent} (hok : p.ok)
    (hcl : Cl w0 E (.blk b [.slice (some ⟨b2, 0, none⟩) (p).l.length cap, .int .i64 ((p).last : Int)] 60 (0, 0) :: .row (some b2) cap (p).l.length 61 4 ((p).l.flatMap prC) :: Lk) w) : Calls Try.prog 23 #[.pointer (some ⟨b, 0, none⟩), .int .i64 i] w fun e w' => ∃ v L1, e = .returned v ∧ Cl w [b, b2] L1 w' ∧ v = .int .i64 (actE p i) ∧ ∃ b3 c3, L1 = [.blk b [.slice (some ⟨b3, 0, none⟩) p.l.length c3, .int .i64 (p.last : Int)] 60 (0, 0), .row (some b3) c3 p.l.length 61 4 ((actS goodP p i).l.flatMap prC)] := by
  have hl1 := hok.1
  have hl2 := hok.2.1
  refine calls_of_CW (L := [.blk b [.slice (some ⟨b2, 0, none⟩) (p).l.length cap, .int .i64 ((p).last : Int)] 60 (0, 0), .row (some b2) cap (p).l.length 61 4 ((p).l.flatMap prC)]) Try.func23 rfl (Nat.le_of_ble_eq_true rfl) (hcl.lent2) ?_
  refine CW.seq_k fun K1 hK1 => ?_
  refine CW.region ?_
  refine OW.q rfl rfl (yq_assign rfl (by (conv => lhs; whnf) <;> rfl)) ?_
  refine OW.nil ?_
  refine hK1 _ _ ?_
  refine CW.seq_k fun K2 hK2 => ?_
  refine CW.seq_k fun K3 hK3 => ?_
  refine CW.region ?_
  refine OW.q rfl rfl (yq_move rfl (by (conv => lhs; whnf) <;> rfl)) ?_
  refine OW.q rfl rfl (yq_move rfl (by (conv => lhs; whnf) <;> rfl)) ?_
  refine OW.q rfl rfl (yq_call rfl rfl (.cons (by (conv => lhs; whnf) <;> rfl) ( .cons (by (conv => lhs; whnf) <;> rfl) .nil)) en34 (fun w hw => is_calls p i b b2 cap w (psAt_row hw (List.mem_cons_self ..) (List.mem_cons_of_mem _ (List.mem_cons_self ..))))) ?_
  refine OW.q rfl rfl ((yq_not rfl (by (conv => lhs; whnf) <;> rfl)).to (v' := .bool (decide (¬ inP p i))) (by simp)) ?_
  refine OW.nil ?_
  refine hK3 _ _ ?_
  refine CW.cond_dec (by (conv => lhs; whnf) <;> rfl) (fun hc0 => ?_) (fun hc0 => ?_)
  · have hin : ¬ inP p i := by simpa using hc0
    refine CW.seq_k fun K4 hK4 => ?_
    refine CW.region ?_
    refine OW.q rfl rfl (yq_assign rfl (by (conv => lhs; whnf) <;> rfl)) ?_
    refine OW.nil ?_
    refine hK4 _ _ ?_
    refine CW.ret ?_
    refine then_ret ?_
    -- ret (ret)
    rw [actE_out hin, actS_out hin]
    exact fin1 (Or.inr rfl) rfl ⟨by decide, (by (conv => lhs; whnf) <;> rfl)⟩ (fun w hw => ⟨_, _, rfl, hw, rfl, b2, cap, rfl⟩)
  · have hin : inP p i := by simpa using hc0
    obtain ⟨hi0, hi1⟩ := id hin
    obtain ⟨k, rfl⟩ : ∃ k : Nat, i = (k : Int) := ⟨i.toNat, by omega⟩
    have hk : k < p.l.length := by omega
    have hx := PS.get_ok hok k
    obtain ⟨x, hxe⟩ : ∃ x, p.get k = x := ⟨_, rfl⟩
    rw [hxe] at hx
    obtain ⟨hx1, hx2, hx3, hx4, hx5, hx6⟩ := hx
    refine CW.skip ?_
    refine hK2 _ _ ?_
    refine CW.seq_k fun K5 hK5 => ?_
    refine CW.drawT 19 mixed (by kernel_rfl) ?_
    refine QW.q rfl rfl (yq_move rfl (by (conv => lhs; whnf) <;> rfl)) ?_
    refine QW.q rfl rfl (yq_move rfl (by (conv => lhs; whnf) <;> rfl)) ?_
    refine QW.q rfl rfl (yq_move rfl (by (conv => lhs; whnf) <;> rfl)) ?_
    refine QW.q rfl rfl (yq_nilCheck rfl (by (conv => lhs; whnf) <;> rfl)) ?_
    refine QW.q rfl rfl (yq_fieldAddr rfl (by (conv => lhs; whnf) <;> rfl) tf60_0 ti58) ?_
    refine QW.q rfl rfl (yq_load1 rfl (by (conv => lhs; whnf) <;> rfl) ti58 (by repeat' first | exact List.mem_cons_self .. | apply List.mem_cons_of_mem) (by rfl)) ?_
    refine QW.q rfl rfl (yq_move rfl (by (conv => lhs; whnf) <;> rfl)) ?_
    refine QW.q rfl rfl (yq_index_slice rfl (by (conv => lhs; whnf) <;> rfl) (by (conv => lhs; whnf) <;> rfl) ts58 ti61 (by omega) (by omega)) ?_
    refine QW.q rfl rfl (yq_fieldAddr rfl (by (conv => lhs; whnf) <;> rfl) tf61_1 ti3) ?_
    refine QW.q rfl rfl (yq_load_c (v := .int .i64 x.strikes) rfl (by (conv => lhs; whnf) <;> rfl) (fun w hw => run_load_one ti3 ((psAt_row hw (by repeat' first | exact List.mem_cons_self .. | apply List.mem_cons_of_mem) (by repeat' first | exact List.mem_cons_self .. | apply List.mem_cons_of_mem)).at1 hk (by decide) (by rw [hxe]; rfl)))) ?_
    refine QW.q rfl rfl (yq_move rfl (by (conv => lhs; whnf) <;> rfl)) ?_
    refine QW.q rfl rfl (yq_nilCheck rfl (by (conv => lhs; whnf) <;> rfl)) ?_
    refine QW.q rfl rfl (yq_fieldAddr rfl (by (conv => lhs; whnf) <;> rfl) tf60_0 ti58) ?_
    refine QW.q rfl rfl (yq_load1 rfl (by (conv => lhs; whnf) <;> rfl) ti58 (by repeat' first | exact List.mem_cons_self .. | apply List.mem_cons_of_mem) (by rfl)) ?_
    refine QW.q rfl rfl (yq_move rfl (by (conv => lhs; whnf) <;> rfl)) ?_
    refine QW.q rfl rfl (yq_index_slice rfl (by (conv => lhs; whnf) <;> rfl) (by (conv => lhs; whnf) <;> rfl) ts58 ti61 (by omega) (by omega)) ?_
    refine QW.q rfl rfl (yq_fieldAddr rfl (by (conv => lhs; whnf) <;> rfl) tf61_2 ti3) ?_
    refine QW.q rfl rfl (yq_load_c (v := .int .i64 x.upto) rfl (by (conv => lhs; whnf) <;> rfl) (fun w hw => run_load_one ti3 ((psAt_row hw (by repeat' first | exact List.mem_cons_self .. | apply List.mem_cons_of_mem) (by repeat' first | exact List.mem_cons_self .. | apply List.mem_cons_of_mem)).at1 hk (by decide) (by rw [hxe]; rfl)))) ?_
    refine QW.q rfl rfl (yq_build (cs := prC (goodP x)) rfl rfl (by kernel_rfl)) ?_
    refine QW.nil ?_
    refine OW.callB rfl rfl rfl (by (conv => lhs; whnf) <;> rfl) (.cons (by (conv => lhs; whnf) <;> rfl) (.cons (by (conv => lhs; whnf) <;> rfl) (.cons (by (conv => lhs; whnf) <;> rfl) .nil))) en35 (fun w1 hw1 => with_calls p k (goodP x) b b2 cap hok hk hw1) ?_
    rintro _ _ ⟨rfl, b3, c3, rfl⟩
    refine OW.q rfl rfl (yq_assign rfl (by (conv => lhs; whnf) <;> rfl)) ?_
    refine OW.nil ?_
    refine hK5 _ _ ?_
    refine CW.ret ?_
    -- ret (ret)
    rw [actE_in hin, actS_in hk, hxe]
    exact fin1 (Or.inr rfl) rfl ⟨by decide, (by (conv => lhs; whnf) <;> rfl)⟩ (fun w hw => ⟨_, _, rfl, hw, rfl, _, _, rfl⟩)

set_option maxRecDepth 100000 in
set_option maxHeartbeats 1000000 in
theorem rbase_calls (t : Int) (w : World) (h1 : -9223372036854775808 ≤ t) (h2 : t ≤ 9223372036854775807) : Calls Try.prog 9 #[.int .i64 t] w fun e w' => e = .returned (.int .i64 (baseP t)) ∧ Cl w [] [] w' := by
  refine calls_of_CW (L := []) Try.func9 rfl (Nat.le_of_ble_eq_true rfl) (Cl.refl _) ?_
  refine CW.seq_k fun K1 hK1 => ?_
  refine CW.region ?_
  refine OW.q rfl rfl (yq_assign rfl (by (conv => lhs; whnf) <;> rfl)) ?_
  refine OW.nil ?_
  refine hK1 _ _ ?_
  refine CW.seq_k fun K2 hK2 => ?_
  refine CW.region ?_
  refine OW.q rfl rfl (yq_assign rfl (by (conv => lhs; whnf) <;> rfl)) ?_
  refine OW.nil ?_
  refine hK2 _ _ ?_
  refine CW.seq_k fun K3 hK3 => ?_
  refine CW.seq_k fun K4 hK4 => ?_
  refine CW.region ?_
  refine OW.q rfl rfl (yq_assign rfl (by (conv => lhs; whnf) <;> rfl)) ?_
  refine OW.nil ?_
  refine hK4 _ _ ?_
  refine CW.block ?_
  refine CW.loop (σ := Nat) (fun i ρ L => Has ρ [(0, .int .i64 t), (3, .int .i64 (turnB i)), (4, .int .i64 (i : Int))] ∧ ((i : Int) ≤ t ∨ (i = 0 ∧ t ≤ 0)) ∧ i ≤ 6 ∧ L = []) (fun i => 6 - i) (0) ?_ ?_
  · exact ⟨Has.mk ⟨(by (conv => lhs; whnf) <;> rfl), (by (conv => lhs; whnf) <;> rfl), (by (conv => lhs; whnf) <;> rfl), trivial⟩, by omega, by omega, rfl⟩
  · rintro i _ _ ⟨⟨ρ', rfl⟩, hit, hi6, rfl⟩
    have htl := turnB_le i
    refine CW.seq_k fun K5 hK5 => ?_
    refine CW.seq_k fun K6 hK6 => ?_
    refine CW.region ?_
    refine OW.q rfl rfl (yq_move rfl (by (conv => lhs; whnf) <;> rfl)) ?_
    refine OW.q rfl rfl (yq_move rfl (by (conv => lhs; whnf) <;> rfl)) ?_
    refine OW.qb rfl rfl (yq_lss rfl (by (conv => lhs; whnf) <;> rfl) (by (conv => lhs; whnf) <;> rfl)) (fun b7 hb7 => ?_)
    refine OW.q rfl rfl (yq_move rfl (by (conv => lhs; whnf) <;> rfl)) ?_
    apply OW.segAnd 3 [9, 10] 11 hb7
    · intro hb7e
      refine QW.q (by subst hb7e; rfl) rfl (yq_move rfl (by (conv => lhs; whnf) <;> rfl)) ?_
      refine QW.qb (by subst hb7e; rfl) rfl (yq_lss rfl (by (conv => lhs; whnf) <;> rfl) (by (conv => lhs; whnf) <;> rfl)) (fun b10 hb10 => ?_)
      refine QW.q rfl rfl (yq_pick rfl (by (conv => lhs; whnf) <;> rfl) (by subst hb7e; ((conv => lhs; whnf) <;> rfl))) ?_
      exact QW.nil (SegM.mk (any_c (any_c any_n)) (and_run hb7 hb7e hb10))
    · intro hb7e
      refine QW.skip (by subst hb7e; rfl) rfl ?_
      refine QW.skip (by subst hb7e; rfl) rfl ?_
      refine QW.q rfl rfl (yq_pick rfl (by (conv => lhs; whnf) <;> rfl) (by subst hb7e; ((conv => lhs; whnf) <;> rfl))) ?_
      exact QW.nil (SegM.mk (any_c (any_c any_n)) (and_skip hb7 hb7e))
    · intro ρ11 b11 hA hb11
      obtain ⟨x9, x10, rfl⟩ := hA
      refine OW.nil ?_
      refine hK6 _ _ ?_
      refine CW.condq (by (conv => lhs; whnf) <;> rfl) hb11 (fun hc1 => ?_) (fun hc1 => ?_)
      · have hi5 := turnB_lt hc1.2
        have hst := turnB_step hc1.2
        refine CW.skip ?_
        refine hK5 _ _ ?_
        refine CW.seq_k fun K7 hK7 => ?_
        refine CW.block ?_
        refine CW.region ?_
        refine OW.q rfl rfl (yq_move rfl (by (conv => lhs; whnf) <;> rfl)) ?_
        refine OW.q rfl rfl (yq_mul rfl (by (conv => lhs; whnf) <;> rfl) (by (conv => lhs; whnf) <;> rfl) (by omega)) ?_
        refine OW.q rfl rfl (yq_max (r := turnB (i + 1)) rfl (by (conv => lhs; whnf) <;> rfl) (by (conv => lhs; whnf) <;> rfl) hst.symm) ?_
        refine OW.q rfl rfl (yq_assign rfl (by (conv => lhs; whnf) <;> rfl)) ?_
        refine OW.nil ?_
        refine hK7 _ _ ?_
        refine CW.region ?_
        refine OW.q rfl rfl (yq_move rfl (by (conv => lhs; whnf) <;> rfl)) ?_
        refine OW.q rfl rfl (yq_add rfl (by (conv => lhs; whnf) <;> rfl) (by (conv => lhs; whnf) <;> rfl) (by omega)) ?_
        refine OW.q rfl rfl (yq_assign rfl (by (conv => lhs; whnf) <;> rfl)) ?_
        refine OW.nil ?_
        exact ⟨i + 1, ⟨Has.mk ⟨(by (conv => lhs; whnf) <;> rfl), (by (conv => lhs; whnf) <;> rfl), (by (conv => lhs; whnf) <;> rfl), trivial⟩, by omega, by omega, rfl⟩, by omega⟩
      · have hend := turnB_end hc1 hit
        refine CW.exit ?_
        refine then_exit ?_
        refine then_exit ?_
        refine blockQ_hit ?_
        refine hK3 _ _ ?_
        refine CW.seq_k fun K8 hK8 => ?_
        refine CW.region ?_
        refine OW.q rfl rfl (yq_move rfl (by (conv => lhs; whnf) <;> rfl)) ?_
        refine OW.q rfl rfl (yq_assign rfl (by (conv => lhs; whnf) <;> rfl)) ?_
        refine OW.nil ?_
        refine hK8 _ _ ?_
        refine CW.ret ?_
        -- ret (ret)
        rw [← hend]
        exact fin1 (Or.inr rfl) rfl ⟨by decide, (by (conv => lhs; whnf) <;> rfl)⟩ (fun w hw => ⟨rfl, hw.sub (List.nil_sublist _)⟩)

set_option maxRecDepth 100000 in
set_option maxHeartbeats 1000000 in
theorem rgap_calls (t : Int) (d : UInt8) (w : World) (h1 : -9223372036854775808 ≤ t) (h2 : t ≤ 9223372036854775807) :
    Calls Try.prog 11 #[.int .i64 t, U8 d] w fun e w' => e = .returned (.int .i64 (gapP t d.toNat)) ∧ Cl w [] [] w' := by
  have hb := baseP_le t
  have hm0 := Int.emod_nonneg (d.toNat : Int) (show baseP t / 2 + 1 ≠ 0 by omega)
  have hm1 := Int.emod_lt_of_pos (d.toNat : Int) (show 0 < baseP t / 2 + 1 by omega)
  refine calls_of_CW (L := []) Try.func11 rfl (Nat.le_of_ble_eq_true rfl) (Cl.refl _) ?_
  refine CW.seq_k fun K1 hK1 => ?_
  refine CW.region ?_
  refine OW.q rfl rfl (yq_assign rfl (by (conv => lhs; whnf) <;> rfl)) ?_
  refine OW.nil ?_
  refine hK1 _ _ ?_
  refine CW.seq_k fun K2 hK2 => ?_
  refine CW.region ?_
  refine OW.q rfl rfl (yq_move rfl (by (conv => lhs; whnf) <;> rfl)) ?_
  refine OW.q rfl rfl (yq_call rfl rfl (.cons (by (conv => lhs; whnf) <;> rfl) .nil) en9 (fun w hw => rbase_calls t w h1 h2)) ?_
  refine OW.q rfl rfl (yq_assign rfl (by (conv => lhs; whnf) <;> rfl)) ?_
  refine OW.nil ?_
  refine hK2 _ _ ?_
  refine CW.seq_k fun K3 hK3 => ?_
  refine CW.region ?_
  refine OW.q rfl rfl (yq_move rfl (by (conv => lhs; whnf) <;> rfl)) ?_
  refine OW.q rfl rfl (yq_move rfl (by (conv => lhs; whnf) <;> rfl)) ?_
  refine OW.q rfl rfl (yq_quo rfl (by (conv => lhs; whnf) <;> rfl) (by (conv => lhs; whnf) <;> rfl) (by omega)) ?_
  refine OW.q rfl rfl (yq_sub rfl (by (conv => lhs; whnf) <;> rfl) (by (conv => lhs; whnf) <;> rfl) (by omega)) ?_
  refine OW.q rfl rfl (yq_move rfl (by (conv => lhs; whnf) <;> rfl)) ?_
  refine OW.q rfl rfl (yq_conv_u8_i64 rfl Try.underlying5 Try.underlying3 (by (conv => lhs; whnf) <;> rfl)) ?_
  refine OW.q rfl rfl (yq_move rfl (by (conv => lhs; whnf) <;> rfl)) ?_
  refine OW.q rfl rfl (yq_quo rfl (by (conv => lhs; whnf) <;> rfl) (by (conv => lhs; whnf) <;> rfl) (by omega)) ?_
  refine OW.q rfl rfl (yq_add rfl (by (conv => lhs; whnf) <;> rfl) (by (conv => lhs; whnf) <;> rfl) (by omega)) ?_
  refine OW.q rfl rfl (yq_rem rfl (by (conv => lhs; whnf) <;> rfl) (by (conv => lhs; whnf) <;> rfl) (by omega)) ?_
  refine OW.q rfl rfl (yq_add rfl (by (conv => lhs; whnf) <;> rfl) (by (conv => lhs; whnf) <;> rfl) (by omega)) ?_
  refine OW.q rfl rfl (yq_assign rfl (by (conv => lhs; whnf) <;> rfl)) ?_
  refine OW.nil ?_
  refine hK3 _ _ ?_
  refine CW.ret ?_
  -- ret (ret)
  rw [show gapP t d.toNat = (baseP t - baseP t / 2) + (d.toNat : Int) % (baseP t / 2 + 1) by unfold gapP; omega]
  exact fin1 (Or.inr rfl) rfl ⟨by decide, (by (conv => lhs; whnf) <;> rfl)⟩ (fun w hw => ⟨rfl, hw.sub (List.nil_sublist _)⟩)

set_option maxRecDepth 100000 in
set_option maxHeartbeats 1000000 in
theorem rlate_calls (p : PS) (i : Int) (now : Int) (d : UInt8) (b b2 cap : Nat) {w0 w : World} {E : List Nat} {Lk : List Ent} (hok : p.ok)
    (hcl : Cl w0 E (.blk b [.slice (some ⟨b2, 0, none⟩) (p).l.length cap, .int .i64 ((p).last : Int)] 60 (0, 0) :: .row (some b2) cap (p).l.length 61 4 ((p).l.flatMap prC) :: Lk) w) : Calls Try.prog 24 #[.pointer (some ⟨b, 0, none⟩), .int .i64 i, .int .i64 now, U8 d] w fun e w' => ∃ v L1, e = .returned v ∧ Cl w [b, b2] L1 w' ∧ v = .int .i64 (actE p i) ∧ ∃ b3 c3, L1 = [.blk b [.slice (some ⟨b3, 0, none⟩) p.l.length c3, .int .i64 (p.last : Int)] 60 (0, 0), .row (some b3) c3 p.l.length 61 4 ((actS (fun x => lateP x now d.toNat) p i).l.flatMap prC)] := by
  have hl1 := hok.1
  have hl2 := hok.2.1
  refine calls_of_CW (L := [.blk b [.slice (some ⟨b2, 0, none⟩) (p).l.length cap, .int .i64 ((p).last : Int)] 60 (0, 0), .row (some b2) cap (p).l.length 61 4 ((p).l.flatMap prC)]) Try.func24 rfl (Nat.le_of_ble_eq_true rfl) (hcl.lent2) ?_
  refine CW.seq_k fun K1 hK1 => ?_
  refine CW.region ?_
  refine OW.q rfl rfl (yq_assign rfl (by (conv => lhs; whnf) <;> rfl)) ?_
  refine OW.nil ?_
  refine hK1 _ _ ?_
  refine CW.seq_k fun K2 hK2 => ?_
  refine CW.seq_k fun K3 hK3 => ?_
  refine CW.region ?_
  refine OW.q rfl rfl (yq_move rfl (by (conv => lhs; whnf) <;> rfl)) ?_
  refine OW.q rfl rfl (yq_move rfl (by (conv => lhs; whnf) <;> rfl)) ?_
  refine OW.q rfl rfl (yq_call rfl rfl (.cons (by (conv => lhs; whnf) <;> rfl) ( .cons (by (conv => lhs; whnf) <;> rfl) .nil)) en34 (fun w hw => is_calls p i b b2 cap w (psAt_row hw (List.mem_cons_self ..) (List.mem_cons_of_mem _ (List.mem_cons_self ..))))) ?_
  refine OW.q rfl rfl ((yq_not rfl (by (conv => lhs; whnf) <;> rfl)).to (v' := .bool (decide (¬ inP p i))) (by simp)) ?_
  refine OW.nil ?_
  refine hK3 _ _ ?_
  refine CW.cond_dec (by (conv => lhs; whnf) <;> rfl) (fun hc0 => ?_) (fun hc0 => ?_)
  · have hin : ¬ inP p i := by simpa using hc0
    refine CW.seq_k fun K4 hK4 => ?_
    refine CW.region ?_
    refine OW.q rfl rfl (yq_assign rfl (by (conv => lhs; whnf) <;> rfl)) ?_
    refine OW.nil ?_
    refine hK4 _ _ ?_
    refine CW.ret ?_
    refine then_ret ?_
    -- ret (ret)
    rw [actE_out hin, actS_out hin]
    exact fin1 (Or.inr rfl) rfl ⟨by decide, (by (conv => lhs; whnf) <;> rfl)⟩ (fun w hw => ⟨_, _, rfl, hw, rfl, b2, cap, rfl⟩)
  · have hin : inP p i := by simpa using hc0
    obtain ⟨hi0, hi1⟩ := id hin
    obtain ⟨k, rfl⟩ : ∃ k : Nat, i = (k : Int) := ⟨i.toNat, by omega⟩
    have hk : k < p.l.length := by omega
    have hx := PS.get_ok hok k
    obtain ⟨x, hxe⟩ : ∃ x, p.get k = x := ⟨_, rfl⟩
    rw [hxe] at hx
    obtain ⟨hx1, hx2, hx3, hx4, hx5, hx6⟩ := hx
    refine CW.skip ?_
    refine hK2 _ _ ?_
    refine CW.seq_k fun K5 hK5 => ?_
    refine CW.region ?_
    refine OW.q rfl rfl (yq_move rfl (by (conv => lhs; whnf) <;> rfl)) ?_
    refine OW.q rfl rfl (yq_nilCheck rfl (by (conv => lhs; whnf) <;> rfl)) ?_
    refine OW.q rfl rfl (yq_fieldAddr rfl (by (conv => lhs; whnf) <;> rfl) tf60_0 ti58) ?_
    refine OW.q rfl rfl (yq_load1 rfl (by (conv => lhs; whnf) <;> rfl) ti58 (by repeat' first | exact List.mem_cons_self .. | apply List.mem_cons_of_mem) (by rfl)) ?_
    refine OW.q rfl rfl (yq_move rfl (by (conv => lhs; whnf) <;> rfl)) ?_
    refine OW.q rfl rfl (yq_index_slice rfl (by (conv => lhs; whnf) <;> rfl) (by (conv => lhs; whnf) <;> rfl) ts58 ti61 (by omega) (by omega)) ?_
    refine OW.q rfl rfl (yq_load_c (v := .agg (prC x).toArray) rfl (by (conv => lhs; whnf) <;> rfl) (fun w hw => run_load_agg ti61 (fun j u hu => (psAt_row hw (by repeat' first | exact List.mem_cons_self .. | apply List.mem_cons_of_mem) (by repeat' first | exact List.mem_cons_self .. | apply List.mem_cons_of_mem)).row _ _ (pr_atA hk j u (by rw [hxe]; exact hu))))) ?_
    refine OW.alloc rfl rfl rfl tz61 (fun b9 => ?_)
    refine OW.store' rfl rfl rfl (by (conv => lhs; whnf) <;> rfl) (by (conv => lhs; whnf) <;> rfl) (vs := prC x) ti61 rfl (prC_one _) (by repeat' first | exact Put.head | apply Put.tail) (cs' := prC x) (by exact spl_all _ _ rfl) (by exact Nat.le_of_ble_eq_true rfl) ?_
    refine OW.nil ?_
    refine hK5 _ _ ?_
    refine CW.seq_k fun K6 hK6 => ?_
    refine CW.region ?_
    refine OW.q rfl rfl (yq_fieldAddr rfl (by (conv => lhs; whnf) <;> rfl) tf61_0 ti3) ?_
    refine OW.q rfl rfl (yq_load1 rfl (by (conv => lhs; whnf) <;> rfl) ti3 (by repeat' first | exact List.mem_cons_self .. | apply List.mem_cons_of_mem) (by rfl)) ?_
    refine OW.q rfl rfl (yq_add rfl (by (conv => lhs; whnf) <;> rfl) (by (conv => lhs; whnf) <;> rfl) (by omega)) ?_
    refine OW.q rfl rfl (yq_min (r := (if 1048576 < x.tries + 1 then (1048576 : Int) else x.tries + 1)) rfl (by (conv => lhs; whnf) <;> rfl) (by (conv => lhs; whnf) <;> rfl) rfl) ?_
    refine OW.q rfl rfl (yq_fieldAddr rfl (by (conv => lhs; whnf) <;> rfl) tf61_0 ti3) ?_
    refine OW.store1 rfl rfl rfl (by (conv => lhs; whnf) <;> rfl) (by (conv => lhs; whnf) <;> rfl) ti3 (by rfl) (by repeat' first | exact Put.head | apply Put.tail) (by rfl) (Nat.le_of_ble_eq_true rfl) ?_
    refine OW.nil ?_
    refine hK6 _ _ ?_
    refine CW.seq_k fun K7 hK7 => ?_
    have hn := near_in now
    have hg := @gapP_le (if 1048576 < x.tries + 1 then (1048576 : Int) else x.tries + 1) (d.toNat : Int)
    refine CW.drawT 8 mixed (by kernel_rfl) ?_
    refine QW.q rfl rfl (yq_move rfl (by (conv => lhs; whnf) <;> rfl)) ?_
    refine QW.q rfl rfl (yq_call rfl rfl (.cons (by (conv => lhs; whnf) <;> rfl) .nil) en36 (fun w hw => rnear_calls now w)) ?_
    refine QW.q rfl rfl (yq_fieldAddr rfl (by (conv => lhs; whnf) <;> rfl) tf61_0 ti3) ?_
    refine QW.q rfl rfl (yq_load1 rfl (by (conv => lhs; whnf) <;> rfl) ti3 (by repeat' first | exact List.mem_cons_self .. | apply List.mem_cons_of_mem) (by rfl)) ?_
    refine QW.q rfl rfl (yq_move rfl (by (conv => lhs; whnf) <;> rfl)) ?_
    refine QW.q rfl rfl (yq_call rfl rfl (.cons (by (conv => lhs; whnf) <;> rfl) ( .cons (by (conv => lhs; whnf) <;> rfl) .nil)) en11 (fun w hw => rgap_calls (if 1048576 < x.tries + 1 then (1048576 : Int) else x.tries + 1) d w (by split <;> omega) (by split <;> omega))) ?_
    refine QW.q rfl rfl (yq_add rfl (by (conv => lhs; whnf) <;> rfl) (by (conv => lhs; whnf) <;> rfl) (by omega)) ?_
    refine QW.q rfl rfl (yq_fieldAddr rfl (by (conv => lhs; whnf) <;> rfl) tf61_2 ti3) ?_
    refine QW.nil ?_
    refine OW.store1 rfl rfl rfl (by (conv => lhs; whnf) <;> rfl) (by (conv => lhs; whnf) <;> rfl) ti3 (by rfl) (by repeat' first | exact Put.head | apply Put.tail) (by rfl) (Nat.le_of_ble_eq_true rfl) ?_
    refine OW.nil ?_
    refine hK7 _ _ ?_
    refine CW.seq_k fun K8 hK8 => ?_
    refine CW.perm perm12 ?_
    refine CW.region ?_
    refine OW.q rfl rfl (yq_move rfl (by (conv => lhs; whnf) <;> rfl)) ?_
    refine OW.q rfl rfl (yq_move rfl (by (conv => lhs; whnf) <;> rfl)) ?_
    refine OW.q rfl rfl ((yq_loadW (cs := prC (lateP x now d.toNat)) rfl (by (conv => lhs; whnf) <;> rfl) ti61 (by repeat' first | exact List.mem_cons_self .. | apply List.mem_cons_of_mem))) ?_
    refine OW.callB rfl rfl rfl (by (conv => lhs; whnf) <;> rfl) (.cons (by (conv => lhs; whnf) <;> rfl) (.cons (by (conv => lhs; whnf) <;> rfl) (.cons (by (conv => lhs; whnf) <;> rfl) .nil))) en35 (fun w1 hw1 => with_calls p k (lateP x now d.toNat) b b2 cap hok hk hw1) ?_
    rintro _ _ ⟨rfl, b3, c3, rfl⟩
    refine OW.q rfl rfl (yq_assign rfl (by (conv => lhs; whnf) <;> rfl)) ?_
    refine OW.nil ?_
    refine hK8 _ _ ?_
    refine CW.ret ?_
    -- ret (ret)
    rw [actE_in hin, actS_in hk, hxe]
    exact fin1 (Or.inr rfl) rfl ⟨by decide, (by (conv => lhs; whnf) <;> rfl)⟩ (fun w hw => ⟨_, _, rfl, hw.sub (by repeat' first | exact List.Sublist.refl _ | exact List.nil_sublist _ | apply List.Sublist.cons_cons | apply List.Sublist.cons), rfl, _, _, rfl⟩)

set_option maxRecDepth 100000 in
set_option maxHeartbeats 1000000 in
theorem rbad_calls (p : PS) (i : Int) (now : Int) (b b2 cap : Nat) {w0 w : World} {E : List Nat} {Lk : List Ent} (hok : p.ok)
    (hcl : Cl w0 E (.blk b [.slice (some ⟨b2, 0, none⟩) (p).l.length cap, .int .i64 ((p).last : Int)] 60 (0, 0) :: .row (some b2) cap (p).l.length 61 4 ((p).l.flatMap prC) :: Lk) w) : Calls Try.prog 25 #[.pointer (some ⟨b, 0, none⟩), .int .i64 i, .int .i64 now] w fun e w' => ∃ v L1, e = .returned v ∧ Cl w [b, b2] L1 w' ∧ v = .int .i64 (actE p i) ∧ ∃ b3 c3, L1 = [.blk b [.slice (some ⟨b3, 0, none⟩) p.l.length c3, .int .i64 (p.last : Int)] 60 (0, 0), .row (some b3) c3 p.l.length 61 4 ((actS (fun x => badP x now) p i).l.flatMap prC)] := by
  have hl1 := hok.1
  have hl2 := hok.2.1
  refine calls_of_CW (L := [.blk b [.slice (some ⟨b2, 0, none⟩) (p).l.length cap, .int .i64 ((p).last : Int)] 60 (0, 0), .row (some b2) cap (p).l.length 61 4 ((p).l.flatMap prC)]) Try.func25 rfl (Nat.le_of_ble_eq_true rfl) (hcl.lent2) ?_
  refine CW.seq_k fun K1 hK1 => ?_
  refine CW.region ?_
  refine OW.q rfl rfl (yq_assign rfl (by (conv => lhs; whnf) <;> rfl)) ?_
  refine OW.nil ?_
  refine hK1 _ _ ?_
  refine CW.seq_k fun K2 hK2 => ?_
  refine CW.seq_k fun K3 hK3 => ?_
  refine CW.region ?_
  refine OW.q rfl rfl (yq_move rfl (by (conv => lhs; whnf) <;> rfl)) ?_
  refine OW.q rfl rfl (yq_move rfl (by (conv => lhs; whnf) <;> rfl)) ?_
  refine OW.q rfl rfl (yq_call rfl rfl (.cons (by (conv => lhs; whnf) <;> rfl) ( .cons (by (conv => lhs; whnf) <;> rfl) .nil)) en34 (fun w hw => is_calls p i b b2 cap w (psAt_row hw (List.mem_cons_self ..) (List.mem_cons_of_mem _ (List.mem_cons_self ..))))) ?_
  refine OW.q rfl rfl ((yq_not rfl (by (conv => lhs; whnf) <;> rfl)).to (v' := .bool (decide (¬ inP p i))) (by simp)) ?_
  refine OW.nil ?_
  refine hK3 _ _ ?_
  refine CW.cond_dec (by (conv => lhs; whnf) <;> rfl) (fun hc0 => ?_) (fun hc0 => ?_)
  · have hin : ¬ inP p i := by simpa using hc0
    refine CW.seq_k fun K4 hK4 => ?_
    refine CW.region ?_
    refine OW.q rfl rfl (yq_assign rfl (by (conv => lhs; whnf) <;> rfl)) ?_
    refine OW.nil ?_
    refine hK4 _ _ ?_
    refine CW.ret ?_
    refine then_ret ?_
    -- ret (ret)
    rw [actE_out hin, actS_out hin]
    exact fin1 (Or.inr rfl) rfl ⟨by decide, (by (conv => lhs; whnf) <;> rfl)⟩ (fun w hw => ⟨_, _, rfl, hw, rfl, b2, cap, rfl⟩)
  · have hin : inP p i := by simpa using hc0
    obtain ⟨hi0, hi1⟩ := id hin
    obtain ⟨k, rfl⟩ : ∃ k : Nat, i = (k : Int) := ⟨i.toNat, by omega⟩
    have hk : k < p.l.length := by omega
    have hx := PS.get_ok hok k
    obtain ⟨x, hxe⟩ : ∃ x, p.get k = x := ⟨_, rfl⟩
    rw [hxe] at hx
    obtain ⟨hx1, hx2, hx3, hx4, hx5, hx6⟩ := hx
    refine CW.skip ?_
    refine hK2 _ _ ?_
    refine CW.seq_k fun K5 hK5 => ?_
    refine CW.region ?_
    refine OW.q rfl rfl (yq_build (cs := [.int .i64 64, .int .i64 128, .int .i64 256, .int .i64 512, .int .i64 1024]) rfl rfl (by kernel_rfl)) ?_
    refine OW.alloc rfl rfl rfl tz64 (fun b7 => ?_)
    refine OW.store' rfl rfl rfl (by (conv => lhs; whnf) <;> rfl) (by (conv => lhs; whnf) <;> rfl) (vs := [.int .i64 64, .int .i64 128, .int .i64 256, .int .i64 512, .int .i64 1024]) ti64 rfl (by intro u hu; simp only [List.mem_cons, List.not_mem_nil, or_false] at hu; rcases hu with rfl | rfl | rfl | rfl | rfl <;> rfl) (by repeat' first | exact Put.head | apply Put.tail) (cs' := [.int .i64 64, .int .i64 128, .int .i64 256, .int .i64 512, .int .i64 1024]) (by exact spl_all _ _ rfl) (by exact Nat.le_of_ble_eq_true rfl) ?_
    refine OW.nil ?_
    refine hK5 _ _ ?_
    refine CW.seq_k fun K6 hK6 => ?_
    refine CW.region ?_
    refine OW.q rfl rfl (yq_move rfl (by (conv => lhs; whnf) <;> rfl)) ?_
    refine OW.q rfl rfl (yq_nilCheck rfl (by (conv => lhs; whnf) <;> rfl)) ?_
    refine OW.q rfl rfl (yq_fieldAddr rfl (by (conv => lhs; whnf) <;> rfl) tf60_0 ti58) ?_
    refine OW.q rfl rfl (yq_load1 rfl (by (conv => lhs; whnf) <;> rfl) ti58 (by repeat' first | exact List.mem_cons_self .. | apply List.mem_cons_of_mem) (by rfl)) ?_
    refine OW.q rfl rfl (yq_move rfl (by (conv => lhs; whnf) <;> rfl)) ?_
    refine OW.q rfl rfl (yq_index_slice rfl (by (conv => lhs; whnf) <;> rfl) (by (conv => lhs; whnf) <;> rfl) ts58 ti61 (by omega) (by omega)) ?_
    refine OW.q rfl rfl (yq_load_c (v := .agg (prC x).toArray) rfl (by (conv => lhs; whnf) <;> rfl) (fun w hw => run_load_agg ti61 (fun j u hu => (psAt_row hw (by repeat' first | exact List.mem_cons_self .. | apply List.mem_cons_of_mem) (by repeat' first | exact List.mem_cons_self .. | apply List.mem_cons_of_mem)).row _ _ (pr_atA hk j u (by rw [hxe]; exact hu))))) ?_
    refine OW.alloc rfl rfl rfl tz61 (fun b8 => ?_)
    refine OW.store' rfl rfl rfl (by (conv => lhs; whnf) <;> rfl) (by (conv => lhs; whnf) <;> rfl) (vs := prC x) ti61 rfl (prC_one _) (by repeat' first | exact Put.head | apply Put.tail) (cs' := prC x) (by exact spl_all _ _ rfl) (by exact Nat.le_of_ble_eq_true rfl) ?_
    refine OW.nil ?_
    refine hK6 _ _ ?_
    refine CW.seq_k fun K7 hK7 => ?_
    refine CW.perm permG ?_
    have hn := near_in now
    have hpa : 64 ≤ paroleP x.strikes ∧ paroleP x.strikes ≤ 1024 := by unfold paroleP; omega
    obtain ⟨s4, hs4⟩ : ∃ s4 : Nat, (if 4 < x.strikes then (4 : Int) else x.strikes) = (s4 : Int) := ⟨(if 4 < x.strikes then (4 : Int) else x.strikes).toNat, by split <;> omega⟩
    have hs5 : s4 ≤ 4 := by split at hs4 <;> omega
    refine CW.drawT 15 mixed (by kernel_rfl) ?_
    refine QW.q rfl rfl (yq_move rfl (by (conv => lhs; whnf) <;> rfl)) ?_
    refine QW.q rfl rfl (yq_move rfl (by (conv => lhs; whnf) <;> rfl)) ?_
    refine QW.q rfl rfl (yq_fieldAddr rfl (by (conv => lhs; whnf) <;> rfl) tf61_1 ti3) ?_
    refine QW.q rfl rfl (yq_load1 rfl (by (conv => lhs; whnf) <;> rfl) ti3 (by repeat' first | exact List.mem_cons_self .. | apply List.mem_cons_of_mem) (by rfl)) ?_
    refine QW.q rfl rfl (yq_add rfl (by (conv => lhs; whnf) <;> rfl) (by (conv => lhs; whnf) <;> rfl) (by omega)) ?_
    refine QW.q rfl rfl (yq_min (r := if 1048576 < x.strikes + 1 then (1048576 : Int) else x.strikes + 1) rfl (by (conv => lhs; whnf) <;> rfl) (by (conv => lhs; whnf) <;> rfl) rfl) ?_
    refine QW.q rfl rfl (yq_move rfl (by (conv => lhs; whnf) <;> rfl)) ?_
    refine QW.q rfl rfl (yq_call rfl rfl (.cons (by (conv => lhs; whnf) <;> rfl) .nil) en36 (fun w hw => rnear_calls now w)) ?_
    refine QW.q rfl rfl (yq_fieldAddr rfl (by (conv => lhs; whnf) <;> rfl) tf61_1 ti3) ?_
    refine QW.q rfl rfl (yq_load1 rfl (by (conv => lhs; whnf) <;> rfl) ti3 (by repeat' first | exact List.mem_cons_self .. | apply List.mem_cons_of_mem) (by rfl)) ?_
    refine QW.q rfl rfl (yq_min (r := (s4 : Int)) rfl (by (conv => lhs; whnf) <;> rfl) (by (conv => lhs; whnf) <;> rfl) hs4) ?_
    refine QW.q rfl rfl (yq_index_arr rfl (by (conv => lhs; whnf) <;> rfl) (by (conv => lhs; whnf) <;> rfl) ta64 ti3 (by omega) (by omega)) ?_
    refine QW.q rfl rfl (yq_load1 (v := .int .i64 (paroleP x.strikes)) rfl (by (conv => lhs; whnf) <;> rfl) ti3 (by repeat' first | exact List.mem_cons_self .. | apply List.mem_cons_of_mem) (parole_tab hx3 hs4)) ?_
    refine QW.q rfl rfl (yq_add rfl (by (conv => lhs; whnf) <;> rfl) (by (conv => lhs; whnf) <;> rfl) (by omega)) ?_
    refine QW.q rfl rfl (yq_build (cs := prC (badP x now)) rfl rfl (by kernel_rfl)) ?_
    refine QW.nil ?_
    refine OW.callB rfl rfl rfl (by (conv => lhs; whnf) <;> rfl) (.cons (by (conv => lhs; whnf) <;> rfl) (.cons (by (conv => lhs; whnf) <;> rfl) (.cons (by (conv => lhs; whnf) <;> rfl) .nil))) en35 (fun w1 hw1 => with_calls p k (badP x now) b b2 cap hok hk hw1) ?_
    rintro _ _ ⟨rfl, b3, c3, rfl⟩
    refine OW.q rfl rfl (yq_assign rfl (by (conv => lhs; whnf) <;> rfl)) ?_
    refine OW.nil ?_
    refine hK7 _ _ ?_
    refine CW.ret ?_
    -- ret (ret)
    rw [actE_in hin, actS_in hk, hxe]
    exact fin1 (Or.inr rfl) rfl ⟨by decide, (by (conv => lhs; whnf) <;> rfl)⟩ (fun w hw => ⟨_, _, rfl, hw.sub (by repeat' first | exact List.Sublist.refl _ | exact List.nil_sublist _ | apply List.Sublist.cons_cons | apply List.Sublist.cons), rfl, _, _, rfl⟩)

set_option maxRecDepth 100000 in
set_option maxHeartbeats 1000000 in
theorem ridle_calls (p : PS) (i : Int) (now : Int) (b b2 cap : Nat) {w0 w : World} {E : List Nat} {Lk : List Ent} (hok : p.ok)
    (hcl : Cl w0 E (.blk b [.slice (some ⟨b2, 0, none⟩) (p).l.length cap, .int .i64 ((p).last : Int)] 60 (0, 0) :: .row (some b2) cap (p).l.length 61 4 ((p).l.flatMap prC) :: Lk) w) : Calls Try.prog 26 #[.pointer (some ⟨b, 0, none⟩), .int .i64 i, .int .i64 now] w fun e w' => ∃ v L1, e = .returned v ∧ Cl w [b, b2] L1 w' ∧ v = .int .i64 (actE p i) ∧ ∃ b3 c3, L1 = [.blk b [.slice (some ⟨b3, 0, none⟩) p.l.length c3, .int .i64 (p.last : Int)] 60 (0, 0), .row (some b3) c3 p.l.length 61 4 ((actS (fun x => idleP x now) p i).l.flatMap prC)] := by
  have hl1 := hok.1
  have hl2 := hok.2.1
  refine calls_of_CW (L := [.blk b [.slice (some ⟨b2, 0, none⟩) (p).l.length cap, .int .i64 ((p).last : Int)] 60 (0, 0), .row (some b2) cap (p).l.length 61 4 ((p).l.flatMap prC)]) Try.func26 rfl (Nat.le_of_ble_eq_true rfl) (hcl.lent2) ?_
  refine CW.seq_k fun K1 hK1 => ?_
  refine CW.region ?_
  refine OW.q rfl rfl (yq_assign rfl (by (conv => lhs; whnf) <;> rfl)) ?_
  refine OW.nil ?_
  refine hK1 _ _ ?_
  refine CW.seq_k fun K2 hK2 => ?_
  refine CW.seq_k fun K3 hK3 => ?_
  refine CW.region ?_
  refine OW.q rfl rfl (yq_move rfl (by (conv => lhs; whnf) <;> rfl)) ?_
  refine OW.q rfl rfl (yq_move rfl (by (conv => lhs; whnf) <;> rfl)) ?_
  refine OW.q rfl rfl (yq_call rfl rfl (.cons (by (conv => lhs; whnf) <;> rfl) ( .cons (by (conv => lhs; whnf) <;> rfl) .nil)) en34 (fun w hw => is_calls p i b b2 cap w (psAt_row hw (List.mem_cons_self ..) (List.mem_cons_of_mem _ (List.mem_cons_self ..))))) ?_
  refine OW.q rfl rfl ((yq_not rfl (by (conv => lhs; whnf) <;> rfl)).to (v' := .bool (decide (¬ inP p i))) (by simp)) ?_
  refine OW.nil ?_
  refine hK3 _ _ ?_
  refine CW.cond_dec (by (conv => lhs; whnf) <;> rfl) (fun hc0 => ?_) (fun hc0 => ?_)
  · have hin : ¬ inP p i := by simpa using hc0
    refine CW.seq_k fun K4 hK4 => ?_
    refine CW.region ?_
    refine OW.q rfl rfl (yq_assign rfl (by (conv => lhs; whnf) <;> rfl)) ?_
    refine OW.nil ?_
    refine hK4 _ _ ?_
    refine CW.ret ?_
    refine then_ret ?_
    -- ret (ret)
    rw [actE_out hin, actS_out hin]
    exact fin1 (Or.inr rfl) rfl ⟨by decide, (by (conv => lhs; whnf) <;> rfl)⟩ (fun w hw => ⟨_, _, rfl, hw, rfl, b2, cap, rfl⟩)
  · have hin : inP p i := by simpa using hc0
    obtain ⟨hi0, hi1⟩ := id hin
    obtain ⟨k, rfl⟩ : ∃ k : Nat, i = (k : Int) := ⟨i.toNat, by omega⟩
    have hk : k < p.l.length := by omega
    have hx := PS.get_ok hok k
    obtain ⟨x, hxe⟩ : ∃ x, p.get k = x := ⟨_, rfl⟩
    rw [hxe] at hx
    obtain ⟨hx1, hx2, hx3, hx4, hx5, hx6⟩ := hx
    refine CW.skip ?_
    refine hK2 _ _ ?_
    refine CW.seq_k fun K5 hK5 => ?_
    refine CW.region ?_
    refine OW.q rfl rfl (yq_move rfl (by (conv => lhs; whnf) <;> rfl)) ?_
    refine OW.q rfl rfl (yq_nilCheck rfl (by (conv => lhs; whnf) <;> rfl)) ?_
    refine OW.q rfl rfl (yq_fieldAddr rfl (by (conv => lhs; whnf) <;> rfl) tf60_0 ti58) ?_
    refine OW.q rfl rfl (yq_load1 rfl (by (conv => lhs; whnf) <;> rfl) ti58 (by repeat' first | exact List.mem_cons_self .. | apply List.mem_cons_of_mem) (by rfl)) ?_
    refine OW.q rfl rfl (yq_move rfl (by (conv => lhs; whnf) <;> rfl)) ?_
    refine OW.q rfl rfl (yq_index_slice rfl (by (conv => lhs; whnf) <;> rfl) (by (conv => lhs; whnf) <;> rfl) ts58 ti61 (by omega) (by omega)) ?_
    refine OW.q rfl rfl (yq_load_c (v := .agg (prC x).toArray) rfl (by (conv => lhs; whnf) <;> rfl) (fun w hw => run_load_agg ti61 (fun j u hu => (psAt_row hw (by repeat' first | exact List.mem_cons_self .. | apply List.mem_cons_of_mem) (by repeat' first | exact List.mem_cons_self .. | apply List.mem_cons_of_mem)).row _ _ (pr_atA hk j u (by rw [hxe]; exact hu))))) ?_
    refine OW.alloc rfl rfl rfl tz61 (fun b7 => ?_)
    refine OW.store' rfl rfl rfl (by (conv => lhs; whnf) <;> rfl) (by (conv => lhs; whnf) <;> rfl) (vs := prC x) ti61 rfl (prC_one _) (by repeat' first | exact Put.head | apply Put.tail) (cs' := prC x) (by exact spl_all _ _ rfl) (by exact Nat.le_of_ble_eq_true rfl) ?_
    refine OW.nil ?_
    refine hK5 _ _ ?_
    refine CW.seq_k fun K6 hK6 => ?_
    have hn := near_in now
    refine CW.region ?_
    refine OW.q rfl rfl (yq_move rfl (by (conv => lhs; whnf) <;> rfl)) ?_
    refine OW.q rfl rfl (yq_call rfl rfl (.cons (by (conv => lhs; whnf) <;> rfl) .nil) en36 (fun w hw => rnear_calls now w)) ?_
    refine OW.q rfl rfl (yq_add rfl (by (conv => lhs; whnf) <;> rfl) (by (conv => lhs; whnf) <;> rfl) (by omega)) ?_
    refine OW.q rfl rfl (yq_fieldAddr rfl (by (conv => lhs; whnf) <;> rfl) tf61_2 ti3) ?_
    refine OW.store1 rfl rfl rfl (by (conv => lhs; whnf) <;> rfl) (by (conv => lhs; whnf) <;> rfl) ti3 (by rfl) (by repeat' first | exact Put.head | apply Put.tail) (by rfl) (Nat.le_of_ble_eq_true rfl) ?_
    refine OW.nil ?_
    refine hK6 _ _ ?_
    refine CW.seq_k fun K7 hK7 => ?_
    refine CW.perm perm12 ?_
    refine CW.region ?_
    refine OW.q rfl rfl (yq_move rfl (by (conv => lhs; whnf) <;> rfl)) ?_
    refine OW.q rfl rfl (yq_move rfl (by (conv => lhs; whnf) <;> rfl)) ?_
    refine OW.q rfl rfl ((yq_loadW (cs := prC (idleP x now)) rfl (by (conv => lhs; whnf) <;> rfl) ti61 (by repeat' first | exact List.mem_cons_self .. | apply List.mem_cons_of_mem))) ?_
    refine OW.callB rfl rfl rfl (by (conv => lhs; whnf) <;> rfl) (.cons (by (conv => lhs; whnf) <;> rfl) (.cons (by (conv => lhs; whnf) <;> rfl) (.cons (by (conv => lhs; whnf) <;> rfl) .nil))) en35 (fun w1 hw1 => with_calls p k (idleP x now) b b2 cap hok hk hw1) ?_
    rintro _ _ ⟨rfl, b3, c3, rfl⟩
    refine OW.q rfl rfl (yq_assign rfl (by (conv => lhs; whnf) <;> rfl)) ?_
    refine OW.nil ?_
    refine hK7 _ _ ?_
    refine CW.ret ?_
    -- ret (ret)
    rw [actE_in hin, actS_in hk, hxe]
    exact fin1 (Or.inr rfl) rfl ⟨by decide, (by (conv => lhs; whnf) <;> rfl)⟩ (fun w hw => ⟨_, _, rfl, hw.sub (by repeat' first | exact List.Sublist.refl _ | exact List.nil_sublist _ | apply List.Sublist.cons_cons | apply List.Sublist.cons), rfl, _, _, rfl⟩)

end Go.Proofs.Ytahdekllphehkaa
