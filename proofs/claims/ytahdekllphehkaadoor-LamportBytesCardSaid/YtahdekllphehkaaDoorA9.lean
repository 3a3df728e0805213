/- Roots; no statement of the seat is proved here. -/
import Derived.Test.YtahdekllphehkaaDoorA8
set_option linter.unusedVariables false
set_option linter.unusedSimpArgs false
namespace Go.Proofs.YtahdekllphehkaaDoor
open Go.WL Go.Spec

/-- What the inner function of the root answers, at lengths up to m. -/
def Root1P (v : Value) (l : List Hash) (b1 b3 m : Nat) : Prop := ∀ (f q : Nat) (fi ti : Int) (w : World), fi = (f : Int) → ti = ((f + q : Nat) : Int) → 1 ≤ q → q ≤ m → f + q ≤ l.length → l.length ≤ 1099511627776 → HsAt w v l →
  w.cell? ⟨b1, 0, none⟩ = some v → w.cell? ⟨b3, 0, none⟩ = some (.func (.func 101) #[] #[.pointer (some ⟨b1, 0, none⟩), .pointer (some ⟨b3, 0, none⟩)]) → GL w →
  Calls Tryd.prog 101 #[.int .i64 fi, .int .i64 ti, .pointer (some ⟨b1, 0, none⟩), .pointer (some ⟨b3, 0, none⟩)] w fun e w' => e = .returned (HV (rootL ((l.drop f).take q))) ∧ Cl w [] [] w'

set_option maxRecDepth 100000 in
set_option maxHeartbeats 1000000 in
theorem root1_step (v : Value) (l : List Hash) (b1 b3 m : Nat) (ih : Root1P v l b1 b3 m) : Root1P v l b1 b3 (m + 1) := by
  intro f q fi ti w hfi hti hq1 hqm hfq hll hs hb1 hb3 hg
  subst hfi
  subst hti
  obtain ⟨b, off, cap, rfl, hcap⟩ := hs.place (fun e => by subst e; simp at hfq; omega)
  have hsp : spI (((f + q : Nat) : Int) - (f : Int)) = (sp q : Int) := by rw [spI, show (((f + q : Nat) : Int) - (f : Int)).toNat = q by omega]
  refine calls_of_CW (L := []) Tryd.func101 rfl (Nat.le_of_ble_eq_true rfl) (Cl.refl _) ?_
  refine CW.seq_k fun K1 hK1 => ?_
  refine CW.region ?_
  refine OW.alloc rfl rfl rfl tz25 (fun b6 => ?_)
  refine OW.nil ?_
  refine hK1 _ _ ?_
  refine CW.seq_k fun K2 hK2 => ?_
  refine CW.region ?_
  refine OW.q rfl rfl (yq_move rfl (by (conv => lhs; whnf) <;> rfl)) ?_
  refine OW.q rfl rfl (yq_move rfl (by (conv => lhs; whnf) <;> rfl)) ?_
  refine OW.q rfl rfl (yq_sub rfl (by (conv => lhs; whnf) <;> rfl) (by (conv => lhs; whnf) <;> rfl) (by omega)) ?_
  refine OW.q rfl rfl (yq_call rfl rfl (.cons (by (conv => lhs; whnf) <;> rfl) .nil) en28 (fun w hw => split_c _ _ w hsp (by omega) (by omega))) ?_
  refine OW.q rfl rfl (yq_assign rfl (by (conv => lhs; whnf) <;> rfl)) ?_
  refine OW.nil ?_
  refine hK2 _ _ ?_
  refine CW.seq_k fun K3 hK3 => ?_
  refine CW.seq_k fun K4 hK4 => ?_
  refine CW.region ?_
  refine OW.q rfl rfl (yq_move rfl (by (conv => lhs; whnf) <;> rfl)) ?_
  refine OW.q rfl rfl (yq_eql rfl (by (conv => lhs; whnf) <;> rfl) (by (conv => lhs; whnf) <;> rfl)) ?_
  refine OW.nil ?_
  refine hK4 _ _ ?_
  refine CW.cond_dec (by (conv => lhs; whnf) <;> rfl) (fun hc0 => ?_) (fun hc0 => ?_)
  · have hq : q = 1 := by
      rcases Nat.lt_or_ge q 2 with h | h
      · omega
      · have := sp_pos h; omega
    subst hq
    refine CW.seq_k fun K5 hK5 => ?_
    refine CW.region ?_
    refine OW.q rfl rfl (yq_load_c rfl (by (conv => lhs; whnf) <;> rfl) (fun w hw => run_load_one ti22 (hw.keep hb1))) ?_
    refine OW.q rfl rfl (yq_move rfl (by (conv => lhs; whnf) <;> rfl)) ?_
    refine OW.q rfl rfl (yq_index_slice rfl (by (conv => lhs; whnf) <;> rfl) (by (conv => lhs; whnf) <;> rfl) ts22 ti25 (by omega) (by omega)) ?_
    refine OW.q rfl rfl (yq_load_hs (i := f) (v := l.getD f zeroHash) rfl (by (conv => lhs; whnf) <;> rfl) ti25 (fun w hw => hs.mono hw) (at_of_lt (by omega))) ?_
    refine OW.storeH rfl rfl rfl (by (conv => lhs; whnf) <;> rfl) (by (conv => lhs; whnf) <;> rfl) ti25 .head (hc_length _) ?_
    refine OW.nil ?_
    refine hK5 _ _ ?_
    refine CW.ret ?_
    refine then_ret ?_
    -- ret (ret)
    rw [show rootL ((l.drop f).take 1) = l.getD f zeroHash by rw [List.drop_eq_getElem_cons (by omega), List.take_succ_cons, List.take_zero, rootL_one]; simp [List.getD_eq_getElem?_getD, show f < l.length by omega]]
    exact fin1 (Or.inr rfl) rfl (rv_hash (by decide) (by (conv => lhs; whnf) <;> rfl) ti25 (List.mem_cons_self ..)) (fun w hw => ⟨rfl, hw.sub (by simp)⟩)
  · have hq2 : 2 ≤ q := by
      rcases Nat.lt_or_ge q 2 with h | h
      · exact absurd (by rw [sp_zero h]; rfl) hc0
      · exact h
    have hk1 := sp_pos hq2
    have hk2 := sp_lt hq2
    obtain ⟨k, hk⟩ : ∃ k, k = sp q := ⟨_, rfl⟩
    rw [← hk] at hk1 hk2 ⊢
    refine CW.skip ?_
    refine hK3 _ _ ?_
    refine CW.seq_k fun K6 hK6 => ?_
    refine CW.drawT 13 mixed (by kernel_rfl) ?_
    refine QW.q rfl rfl (yq_load_c rfl (by (conv => lhs; whnf) <;> rfl) (fun w hw => run_load_one ti143 (hw.keep hb3))) ?_
    refine QW.q rfl rfl (yq_move rfl (by (conv => lhs; whnf) <;> rfl)) ?_
    refine QW.q rfl rfl (yq_move rfl (by (conv => lhs; whnf) <;> rfl)) ?_
    refine QW.q rfl rfl (yq_move rfl (by (conv => lhs; whnf) <;> rfl)) ?_
    refine QW.q rfl rfl (yq_add rfl (by (conv => lhs; whnf) <;> rfl) (by (conv => lhs; whnf) <;> rfl) (by omega)) ?_
    refine QW.q rfl rfl (yq_callc (cap := [_, _]) rfl (by (conv => lhs; whnf) <;> rfl) (.cons (by (conv => lhs; whnf) <;> rfl) (.cons (by (conv => lhs; whnf) <;> rfl) .nil)) en101 (fun w hw => ih f k _ _ w rfl (by omega) (by omega) (by omega) (by omega) hll (hs.mono hw) (hw.keep hb1) (hw.keep hb3) (Cl_gl0 hw hg))) ?_
    refine QW.q rfl rfl (yq_load_c rfl (by (conv => lhs; whnf) <;> rfl) (fun w hw => run_load_one ti143 (hw.keep hb3))) ?_
    refine QW.q rfl rfl (yq_move rfl (by (conv => lhs; whnf) <;> rfl)) ?_
    refine QW.q rfl rfl (yq_move rfl (by (conv => lhs; whnf) <;> rfl)) ?_
    refine QW.q rfl rfl (yq_add rfl (by (conv => lhs; whnf) <;> rfl) (by (conv => lhs; whnf) <;> rfl) (by omega)) ?_
    refine QW.q rfl rfl (yq_move rfl (by (conv => lhs; whnf) <;> rfl)) ?_
    refine QW.q rfl rfl (yq_callc (cap := [_, _]) rfl (by (conv => lhs; whnf) <;> rfl) (.cons (by (conv => lhs; whnf) <;> rfl) (.cons (by (conv => lhs; whnf) <;> rfl) .nil)) en101 (fun w hw => ih (f + k) (q - k) _ _ w (by omega) (by omega) (by omega) (by omega) (by omega) hll (hs.mono hw) (hw.keep hb1) (hw.keep hb3) (Cl_gl0 hw hg))) ?_
    refine QW.q rfl rfl (yq_call rfl rfl (.cons (by (conv => lhs; whnf) <;> rfl) ( .cons (by (conv => lhs; whnf) <;> rfl) .nil)) en27 (fun w hw => node_calls _ _ w (Cl_gl0 hw hg))) ?_
    refine QW.nil ?_
    refine OW.storeH rfl rfl rfl (by (conv => lhs; whnf) <;> rfl) (by (conv => lhs; whnf) <;> rfl) ti25 .head (hc_length _) ?_
    refine OW.nil ?_
    refine hK6 _ _ ?_
    refine CW.ret ?_
    -- ret (ret)
    have hlen : ((l.drop f).take q).length = q := by simp; omega
    rw [rootL_more _ (by rw [hlen]; exact hq2), hlen, ← hk, List.take_take, Nat.min_eq_left (by omega), List.drop_take, List.drop_drop]
    exact fin1 (Or.inr rfl) rfl (rv_hash (by decide) (by (conv => lhs; whnf) <;> rfl) ti25 (List.mem_cons_self ..)) (fun w hw => ⟨rfl, hw.sub (by simp)⟩)

theorem root1_calls (v : Value) (l : List Hash) (b1 b3 m : Nat) : Root1P v l b1 b3 m := by
  induction m with
  | zero => intro f q fi ti w _ _ h1 h2; omega
  | succ m ih => exact root1_step v l b1 b3 m ih

set_option maxRecDepth 100000 in
set_option maxHeartbeats 1000000 in
theorem root_calls (v : Value) (l : List Hash) (w : World) (hs : HsAt w v l) (hll : l.length ≤ 1099511627776) (hg : GL w) :
    Calls Tryd.prog 24 #[v] w fun e w' => e = .returned (HV (rootL l)) ∧ Cl w [] [] w' := by
  have hs0 := hs
  obtain ⟨a, cap, rfl⟩ := hs0.len
  refine calls_of_CW (L := []) Tryd.func24 rfl (Nat.le_of_ble_eq_true rfl) (Cl.refl _) ?_
  refine CW.seq_k fun K1 hK1 => ?_
  refine CW.region ?_
  refine OW.box (cs := [_]) rfl rfl rfl (by (conv => lhs; whnf) <;> rfl) rfl (fun b1 => ?_)
  refine OW.alloc rfl rfl rfl tz25 (fun b2 => ?_)
  refine OW.nil ?_
  refine hK1 _ _ ?_
  refine CW.seq_k fun K2 hK2 => ?_
  refine CW.seq_k fun K3 hK3 => ?_
  refine CW.region ?_
  refine OW.q rfl rfl (yq_load1 rfl (by (conv => lhs; whnf) <;> rfl) ti22 (List.mem_cons_of_mem _ (List.mem_cons_self ..)) rfl) ?_
  refine OW.q rfl rfl (yq_len_slice rfl ts22 (by (conv => lhs; whnf) <;> rfl)) ?_
  refine OW.q rfl rfl (yq_eql rfl (by (conv => lhs; whnf) <;> rfl) (by (conv => lhs; whnf) <;> rfl)) ?_
  refine OW.nil ?_
  refine hK3 _ _ ?_
  refine CW.cond_dec (by (conv => lhs; whnf) <;> rfl) (fun hc0 => ?_) (fun hc0 => ?_)
  · have hl0 : l = [] := List.eq_nil_of_length_eq_zero (by omega)
    subst hl0
    refine CW.seq_k fun K4 hK4 => ?_
    refine CW.region ?_
    refine OW.q rfl rfl (yq_call rfl rfl (.cons (by (conv => lhs; whnf) <;> rfl) .nil) en100 (fun w hw => sum_calls [] w (by decide) (Cl_gl0 hw hg))) ?_
    refine OW.storeH rfl rfl rfl (by (conv => lhs; whnf) <;> rfl) (by (conv => lhs; whnf) <;> rfl) ti25 .head (hc_length _) ?_
    refine OW.nil ?_
    refine hK4 _ _ ?_
    refine CW.ret ?_
    refine then_ret ?_
    -- ret (ret)
    rw [rootL_nil]
    exact fin1 (Or.inr rfl) rfl (rv_hash (by decide) (by (conv => lhs; whnf) <;> rfl) ti25 (List.mem_cons_self ..)) (fun w hw => ⟨rfl, hw.sub (by simp)⟩)
  · refine CW.skip ?_
    refine hK2 _ _ ?_
    refine CW.seq_k fun K5 hK5 => ?_
    refine CW.region ?_
    refine OW.alloc rfl rfl rfl tz143 (fun b3 => ?_)
    refine OW.nil ?_
    refine hK5 _ _ ?_
    refine CW.seq_k fun K6 hK6 => ?_
    refine CW.region ?_
    refine OW.q rfl rfl (yq_makeFunc rfl rfl rfl) ?_
    refine OW.store1 rfl rfl rfl (by (conv => lhs; whnf) <;> rfl) (by (conv => lhs; whnf) <;> rfl) ti143 rfl .head rfl (by decide) ?_
    refine OW.nil ?_
    refine hK6 _ _ ?_
    refine CW.seq_k fun K7 hK7 => ?_
    refine CW.region ?_
    refine OW.q rfl rfl (yq_load1 rfl (by (conv => lhs; whnf) <;> rfl) ti143 (List.mem_cons_self ..) rfl) ?_
    refine OW.q rfl rfl (yq_load1 rfl (by (conv => lhs; whnf) <;> rfl) ti22 (List.mem_cons_of_mem _ (List.mem_cons_of_mem _ (List.mem_cons_self ..))) rfl) ?_
    refine OW.q rfl rfl (yq_len_slice rfl ts22 (by (conv => lhs; whnf) <;> rfl)) ?_
    refine OW.q rfl rfl (yq_callc (cap := [_, _]) rfl (by (conv => lhs; whnf) <;> rfl) (.cons (by (conv => lhs; whnf) <;> rfl) (.cons (by (conv => lhs; whnf) <;> rfl) .nil)) en101 (fun w hw => root1_calls _ l b1 b3 l.length 0 l.length _ _ w rfl (by omega) (by omega) (Nat.le_refl _) (by omega) hll (hs.mono hw) (by rw [hw.cellAt (List.mem_cons_of_mem _ (List.mem_cons_of_mem _ (List.mem_cons_self ..)))]; rfl) (by rw [hw.cellAt (List.mem_cons_self ..)]; rfl) (Cl_gl0 hw hg))) ?_
    refine OW.storeH rfl rfl rfl (by (conv => lhs; whnf) <;> rfl) (by (conv => lhs; whnf) <;> rfl) ti25 (.tail .head) (hc_length _) ?_
    refine OW.nil ?_
    refine hK7 _ _ ?_
    refine CW.ret ?_
    -- ret (ret)
    rw [show rootL l = rootL ((l.drop 0).take l.length) by simp]
    exact fin1 (Or.inr rfl) rfl (rv_hash (by decide) (by (conv => lhs; whnf) <;> rfl) ti25 (List.mem_cons_of_mem _ (List.mem_cons_self ..))) (fun w hw => ⟨rfl, hw.sub (by simp)⟩)

set_option maxRecDepth 100000 in
set_option maxHeartbeats 1000000 in
theorem refsplit_calls (n : Int) (w : World) (h1 : -9223372036854775808 ≤ n) (h2 : n ≤ 9223372036854775807) :
    Calls Tryd.prog 39 #[.int .i64 n] w fun e w' => e = .returned (.int .i64 (spI n)) ∧ Cl w [] [] w' := by
  refine calls_of_CW (L := []) Tryd.func39 rfl (Nat.le_of_ble_eq_true rfl) (Cl.refl _) ?_
  refine CW.seq_k fun K1 hK1 => ?_
  refine CW.region ?_
  refine OW.q rfl rfl (yq_assign rfl (by (conv => lhs; whnf) <;> rfl)) ?_
  refine OW.nil ?_
  refine hK1 _ _ ?_
  refine CW.seq_k fun K2 hK2 => ?_
  refine CW.region ?_
  refine OW.q rfl rfl (yq_assign rfl (by (conv => lhs; whnf) <;> rfl)) ?_
  refine OW.nil ?_
  refine hK2 _ _ ?_
  refine CW.seq_k fun K3 hK3 => ?_
  refine CW.seq_k fun K4 hK4 => ?_
  refine CW.region ?_
  refine OW.q rfl rfl (yq_assign rfl (by (conv => lhs; whnf) <;> rfl)) ?_
  refine OW.nil ?_
  refine hK4 _ _ ?_
  refine CW.block ?_
  refine CW.loop (σ := Nat) (fun j ρ L => ∃ m k : Int, Has ρ [(0, .int .i64 n), (3, .int .i64 k), (4, .int .i64 m)] ∧ ((j = 0 ∧ m = 1 ∧ k = 0) ∨ (∃ i, j = i + 1 ∧ i ≤ 62 ∧ k = ((2 ^ i : Nat) : Int) ∧ ((2 ^ i : Nat) : Int) < n ∧ ((i < 62 ∧ m = ((2 ^ (i + 1) : Nat) : Int)) ∨ (i = 62 ∧ m = -9223372036854775808)))) ∧ L = []) (fun j => 64 - j) (0) ?_ ?_
  · exact ⟨1, 0, Has.mk ⟨(by (conv => lhs; whnf) <;> rfl), (by (conv => lhs; whnf) <;> rfl), (by (conv => lhs; whnf) <;> rfl), trivial⟩, .inl ⟨rfl, rfl, rfl⟩, rfl⟩
  · rintro j _ _ ⟨m, k, ⟨ρ', rfl⟩, hst, rfl⟩
    have h62 : (2 : Nat) ^ 62 = 4611686018427387904 := by decide
    have h63 : (2 : Nat) ^ (62 + 1) = 9223372036854775808 := by decide
    refine CW.seq_k fun K5 hK5 => ?_
    refine CW.seq_k fun K6 hK6 => ?_
    refine CW.region ?_
    refine OW.q rfl rfl (yq_move rfl (by (conv => lhs; whnf) <;> rfl)) ?_
    refine OW.q rfl rfl (yq_move rfl (by (conv => lhs; whnf) <;> rfl)) ?_
    refine OW.q rfl rfl (yq_lss rfl (by (conv => lhs; whnf) <;> rfl) (by (conv => lhs; whnf) <;> rfl)) ?_
    by_cases hc : m < n
    · have hd : decide (m < n) = true := decide_eq_true hc
      rw [hd]
      refine OW.q rfl rfl (yq_move rfl (by (conv => lhs; whnf) <;> rfl)) ?_
      refine OW.q rfl rfl (yq_move rfl (by (conv => lhs; whnf) <;> rfl)) ?_
      refine OW.q rfl rfl (yq_gtr rfl (by (conv => lhs; whnf) <;> rfl) (by (conv => lhs; whnf) <;> rfl)) ?_
      by_cases hm : 0 < m
      · have hd2 : decide (0 < m) = true := decide_eq_true hm
        rw [hd2]
        refine OW.q rfl rfl (yq_pick rfl (by (conv => lhs; whnf) <;> rfl) (by (conv => lhs; whnf) <;> rfl)) ?_
        refine OW.nil ?_
        refine hK6 _ _ ?_
        refine CW.cond_t (by (conv => lhs; whnf) <;> rfl) ?_
        refine CW.skip ?_
        refine hK5 _ _ ?_
        refine CW.seq_k fun K7 hK7 => ?_
        refine CW.block ?_
        refine CW.region ?_
        refine OW.q rfl rfl (yq_move rfl (by (conv => lhs; whnf) <;> rfl)) ?_
        refine OW.q rfl rfl (yq_assign rfl (by (conv => lhs; whnf) <;> rfl)) ?_
        refine OW.nil ?_
        refine hK7 _ _ ?_
        refine CW.region ?_
        refine OW.q rfl rfl (yq_move rfl (by (conv => lhs; whnf) <;> rfl)) ?_
        refine OW.q rfl rfl (yq_mul_e rfl (by (conv => lhs; whnf) <;> rfl) (by (conv => lhs; whnf) <;> rfl) rfl) ?_
        refine OW.q rfl rfl (yq_assign rfl (by (conv => lhs; whnf) <;> rfl)) ?_
        refine OW.nil ?_
        rcases hst with ⟨rfl, rfl, rfl⟩ | ⟨i, rfl, hi, rfl, hin, ⟨hi2, rfl⟩ | ⟨rfl, rfl⟩⟩
        · exact ⟨1, ⟨_, _, Has.mk ⟨(by (conv => lhs; whnf) <;> rfl), (by (conv => lhs; whnf) <;> rfl), (by (conv => lhs; whnf) <;> rfl), trivial⟩, .inr ⟨0, rfl, by omega, rfl, hc, .inl ⟨by omega, by decide⟩⟩, rfl⟩, by omega⟩
        · refine ⟨i + 2, ⟨_, _, Has.mk ⟨(by (conv => lhs; whnf) <;> rfl), (by (conv => lhs; whnf) <;> rfl), (by (conv => lhs; whnf) <;> rfl), trivial⟩, .inr ⟨i + 1, rfl, by omega, rfl, hc, ?_⟩, rfl⟩, by omega⟩
          rcases Nat.lt_or_ge (i + 1) 62 with h | h
          · refine .inl ⟨h, ?_⟩
            have h1 : 2 ^ (i + 1) ≤ 2 ^ 61 := Nat.pow_le_pow_right (by decide) (by omega)
            have h61 : (2 : Nat) ^ 61 = 2305843009213693952 := by decide
            have hp : 2 ^ (i + 1 + 1) = 2 ^ (i + 1) * 2 := Nat.pow_succ ..
            rw [wrap64_in (by omega)]; omega
          · have : i = 61 := by omega
            subst this
            exact .inr ⟨rfl, by decide⟩
        · omega
      · have hd2 : decide (0 < m) = false := decide_eq_false hm
        rw [hd2]
        refine OW.q rfl rfl (yq_pick rfl (by (conv => lhs; whnf) <;> rfl) (by (conv => lhs; whnf) <;> rfl)) ?_
        refine OW.nil ?_
        refine hK6 _ _ ?_
        refine CW.cond_f (by (conv => lhs; whnf) <;> rfl) ?_
        refine CW.exit ?_
        refine then_exit ?_
        refine then_exit ?_
        refine blockQ_hit ?_
        refine hK3 _ _ ?_
        refine CW.seq_k fun K8 hK8 => ?_
        refine CW.region ?_
        refine OW.q rfl rfl (yq_move rfl (by (conv => lhs; whnf) <;> rfl)) ?_
        refine OW.q rfl rfl (yq_assign rfl (by (conv => lhs; whnf) <;> rfl)) ?_
        refine OW.nil ?_
        refine hK8 _ _ ?_
        refine CW.ret ?_
        -- ret (ret)
        have hz : spI n = k := by
          rcases hst with ⟨rfl, rfl, rfl⟩ | ⟨i, rfl, hi, rfl, hin, ⟨hi2, rfl⟩ | ⟨rfl, rfl⟩⟩
          · omega
          · have := Nat.two_pow_pos (i + 1); omega
          · rw [spI, sp_of (n := n.toNat) (j := 62) (by omega) (by omega)]
        exact fin1 (Or.inr rfl) rfl ⟨by decide, by rw [hz]; exact (by (conv => lhs; whnf) <;> rfl)⟩ (fun w hw => ⟨rfl, hw⟩)
    · have hd : decide (m < n) = false := decide_eq_false hc
      rw [hd]
      refine OW.q rfl rfl (yq_move rfl (by (conv => lhs; whnf) <;> rfl)) ?_
      refine OW.skip rfl rfl ?_
      refine OW.skip rfl rfl ?_
      refine OW.q rfl rfl (yq_pick rfl (by (conv => lhs; whnf) <;> rfl) (by (conv => lhs; whnf) <;> rfl)) ?_
      refine OW.nil ?_
      refine hK6 _ _ ?_
      refine CW.cond_f (by (conv => lhs; whnf) <;> rfl) ?_
      refine CW.exit ?_
      refine then_exit ?_
      refine then_exit ?_
      refine blockQ_hit ?_
      refine hK3 _ _ ?_
      refine CW.seq_k fun K9 hK9 => ?_
      refine CW.region ?_
      refine OW.q rfl rfl (yq_move rfl (by (conv => lhs; whnf) <;> rfl)) ?_
      refine OW.q rfl rfl (yq_assign rfl (by (conv => lhs; whnf) <;> rfl)) ?_
      refine OW.nil ?_
      refine hK9 _ _ ?_
      refine CW.ret ?_
      -- ret (ret)
      have hz : spI n = k := by
        rcases hst with ⟨rfl, rfl, rfl⟩ | ⟨i, rfl, hi, rfl, hin, ⟨hi2, rfl⟩ | ⟨rfl, rfl⟩⟩
        · rw [spI, sp_zero (by omega)]; rfl
        · rw [spI, sp_of (n := n.toNat) (j := i) (by omega) (by omega)]
        · omega
      exact fin1 (Or.inr rfl) rfl ⟨by decide, by rw [hz]; exact (by (conv => lhs; whnf) <;> rfl)⟩ (fun w hw => ⟨rfl, hw⟩)

theorem rsplit_c (n r : Int) (w : World) (hr : spI n = r) (h1 : -9223372036854775808 ≤ n) (h2 : n ≤ 9223372036854775807) : Calls Tryd.prog 39 #[.int .i64 n] w fun e w' => e = .returned (.int .i64 r) ∧ Cl w [] [] w' := hr ▸ refsplit_calls n w h1 h2
def RootP (m : Nat) : Prop := ∀ (l : List Hash) (v : Value) (w : World), l.length < m → l.length ≤ 1099511627776 → HsAt w v l → Calls Tryd.prog 25 #[v] w fun e w' => e = .returned (HV (rootL l)) ∧ Cl w [] [] w'

set_option maxRecDepth 100000 in
set_option maxHeartbeats 1000000 in
theorem rroot_step (m : Nat) (ih : RootP m) : RootP (m + 1) := by
  intro l v w hlm hll hs
  have hs0 := hs
  obtain ⟨a, cap, rfl⟩ := hs0.len
  refine calls_of_CW (L := []) Tryd.func25 rfl (Nat.le_of_ble_eq_true rfl) (Cl.refl _) ?_
  refine CW.seq_k fun K1 hK1 => ?_
  refine CW.region ?_
  refine OW.alloc rfl rfl rfl tz25 (fun b2 => ?_)
  refine OW.nil ?_
  refine hK1 _ _ ?_
  refine CW.seq_k fun K2 hK2 => ?_
  refine CW.seq_k fun K3 hK3 => ?_
  refine CW.region ?_
  refine OW.q rfl rfl (yq_move rfl (by (conv => lhs; whnf) <;> rfl)) ?_
  refine OW.q rfl rfl (yq_len_slice rfl ts22 (by (conv => lhs; whnf) <;> rfl)) ?_
  refine OW.q rfl rfl (yq_eql rfl (by (conv => lhs; whnf) <;> rfl) (by (conv => lhs; whnf) <;> rfl)) ?_
  refine OW.nil ?_
  refine hK3 _ _ ?_
  refine CW.cond_dec (by (conv => lhs; whnf) <;> rfl) (fun hc0 => ?_) (fun hc0 => ?_)
  · have hl0 : l = [] := List.eq_nil_of_length_eq_zero (by omega)
    subst hl0
    refine CW.seq_k fun K4 hK4 => ?_
    refine CW.region ?_
    refine OW.q rfl rfl (yq_call rfl rfl (.cons (by (conv => lhs; whnf) <;> rfl) .nil) en102 (fun w hw => refsum_calls [] w (by decide))) ?_
    refine OW.storeH rfl rfl rfl (by (conv => lhs; whnf) <;> rfl) (by (conv => lhs; whnf) <;> rfl) ti25 .head (hc_length _) ?_
    refine OW.nil ?_
    refine hK4 _ _ ?_
    refine CW.ret ?_
    refine then_ret ?_
    -- ret (ret)
    rw [rootL_nil]
    exact fin1 (Or.inr rfl) rfl (rv_hash (by decide) (by (conv => lhs; whnf) <;> rfl) ti25 (List.mem_cons_self ..)) (fun w hw => ⟨rfl, hw.sub (by simp)⟩)
  · obtain ⟨b, off, cap, hv, hcap⟩ := hs.place (fun e => by subst e; exact hc0 rfl)
    rw [Value.slice.injEq] at hv
    obtain ⟨rfl, _, rfl⟩ := hv
    refine CW.skip ?_
    refine hK2 _ _ ?_
    refine CW.seq_k fun K5 hK5 => ?_
    refine CW.seq_k fun K6 hK6 => ?_
    refine CW.region ?_
    refine OW.q rfl rfl (yq_move rfl (by (conv => lhs; whnf) <;> rfl)) ?_
    refine OW.q rfl rfl (yq_len_slice rfl ts22 (by (conv => lhs; whnf) <;> rfl)) ?_
    refine OW.q rfl rfl (yq_eql rfl (by (conv => lhs; whnf) <;> rfl) (by (conv => lhs; whnf) <;> rfl)) ?_
    refine OW.nil ?_
    refine hK6 _ _ ?_
    refine CW.cond_dec (by (conv => lhs; whnf) <;> rfl) (fun hc1 => ?_) (fun hc1 => ?_)
    · have hl1 : l.length = 1 := by omega
      refine CW.seq_k fun K7 hK7 => ?_
      refine CW.region ?_
      refine OW.q rfl rfl (yq_move rfl (by (conv => lhs; whnf) <;> rfl)) ?_
      refine OW.q rfl rfl (yq_index_slice rfl (by (conv => lhs; whnf) <;> rfl) (by (conv => lhs; whnf) <;> rfl) ts22 ti25 (by decide) (by omega)) ?_
      refine OW.q rfl rfl (yq_load_hs (i := 0) (v := l.getD 0 zeroHash) rfl (by (conv => lhs; whnf) <;> rfl) ti25 (fun w hw => hs.mono hw) (at_of_lt (by omega))) ?_
      refine OW.storeH rfl rfl rfl (by (conv => lhs; whnf) <;> rfl) (by (conv => lhs; whnf) <;> rfl) ti25 .head (hc_length _) ?_
      refine OW.nil ?_
      refine hK7 _ _ ?_
      refine CW.ret ?_
      refine then_ret ?_
      -- ret (ret)
      rw [show rootL l = l.getD 0 zeroHash by match l, hl1 with | [x], _ => rw [rootL_one]; rfl]
      exact fin1 (Or.inr rfl) rfl (rv_hash (by decide) (by (conv => lhs; whnf) <;> rfl) ti25 (List.mem_cons_self ..)) (fun w hw => ⟨rfl, hw.sub (by simp)⟩)
    · have hq2 : 2 ≤ l.length := by omega
      have hk1 := sp_pos hq2
      have hk2 := sp_lt hq2
      obtain ⟨k, hk⟩ : ∃ k, k = sp l.length := ⟨_, rfl⟩
      rw [← hk] at hk1 hk2
      have hsp : spI (l.length : Int) = (k : Int) := by rw [spI_nat, hk]
      refine CW.skip ?_
      refine hK5 _ _ ?_
      refine CW.seq_k fun K8 hK8 => ?_
      refine CW.region ?_
      refine OW.q rfl rfl (yq_move rfl (by (conv => lhs; whnf) <;> rfl)) ?_
      refine OW.q rfl rfl (yq_len_slice rfl ts22 (by (conv => lhs; whnf) <;> rfl)) ?_
      refine OW.q rfl rfl (yq_call rfl rfl (.cons (by (conv => lhs; whnf) <;> rfl) .nil) en39 (fun w hw => rsplit_c _ _ w hsp (by omega) (by omega))) ?_
      refine OW.q rfl rfl (yq_assign rfl (by (conv => lhs; whnf) <;> rfl)) ?_
      refine OW.nil ?_
      refine hK8 _ _ ?_
      refine CW.seq_k fun K9 hK9 => ?_
      refine CW.drawT 9 mixed (by kernel_rfl) ?_
      refine QW.q rfl rfl (yq_move rfl (by (conv => lhs; whnf) <;> rfl)) ?_
      refine QW.q rfl rfl (yq_move rfl (by (conv => lhs; whnf) <;> rfl)) ?_
      refine QW.q rfl rfl (yq_slice_slice (l := 0) (h := k) rfl (by (conv => lhs; whnf) <;> rfl) ts22 ti25 rfl ⟨_, _, (by (conv => lhs; whnf) <;> rfl), by omega, by omega⟩ (by omega) (by omega)) ?_
      refine QW.q rfl rfl (yq_call rfl rfl (.cons (by (conv => lhs; whnf) <;> rfl) .nil) en25 (fun w hw => ih (l.take k) _ w (by rw [List.length_take]; omega) (by rw [List.length_take]; omega) (by have := (hs.slice 0 k (by omega) (by omega)).mono hw; rwa [List.drop_zero, Nat.sub_zero] at this))) ?_
      refine QW.q rfl rfl (yq_move rfl (by (conv => lhs; whnf) <;> rfl)) ?_
      refine QW.q rfl rfl (yq_move rfl (by (conv => lhs; whnf) <;> rfl)) ?_
      refine QW.q rfl rfl (yq_slice_slice (l := k) (h := l.length) rfl (by (conv => lhs; whnf) <;> rfl) ts22 ti25 ⟨_, _, (by (conv => lhs; whnf) <;> rfl), by omega, by omega⟩ rfl (by omega) (by omega)) ?_
      refine QW.q rfl rfl (yq_call rfl rfl (.cons (by (conv => lhs; whnf) <;> rfl) .nil) en25 (fun w hw => ih (l.drop k) _ w (by rw [List.length_drop]; omega) (by rw [List.length_drop]; omega) (by have := (hs.slice k l.length (by omega) (by omega)).mono hw; rwa [List.take_of_length_le (by simp)] at this))) ?_
      refine QW.q rfl rfl (yq_call rfl rfl (.cons (by (conv => lhs; whnf) <;> rfl) ( .cons (by (conv => lhs; whnf) <;> rfl) .nil)) en38 (fun w hw => refnode_calls _ _ w)) ?_
      refine QW.nil ?_
      refine OW.storeH rfl rfl rfl (by (conv => lhs; whnf) <;> rfl) (by (conv => lhs; whnf) <;> rfl) ti25 .head (hc_length _) ?_
      refine OW.nil ?_
      refine hK9 _ _ ?_
      refine CW.ret ?_
      -- ret (ret)
      rw [rootL_more _ hq2, ← hk]
      exact fin1 (Or.inr rfl) rfl (rv_hash (by decide) (by (conv => lhs; whnf) <;> rfl) ti25 (List.mem_cons_self ..)) (fun w hw => ⟨rfl, hw.sub (by simp)⟩)

theorem rroot_calls (l : List Hash) (v : Value) (w : World) (hll : l.length ≤ 1099511627776) (hs : HsAt w v l) : Calls Tryd.prog 25 #[v] w fun e w' => e = .returned (HV (rootL l)) ∧ Cl w [] [] w' := by
  have : ∀ m, RootP m := by
    intro m
    induction m with
    | zero => intro l v w h; omega
    | succ m ih => exact rroot_step m ih
  exact this (l.length + 1) l v w (by omega) hll hs

end Go.Proofs.YtahdekllphehkaaDoor
