/- The statements on trees: the walks of TreesHalves and TreesHash; no statement of the seat is proved here. -/
import Derived.Test.YtahdekllphehkaaDoorB0
set_option linter.unusedVariables false
set_option linter.unusedSimpArgs false
namespace Go.Proofs.YtahdekllphehkaaDoor
open Go.WL Go.Spec

theorem hsAt_cap {w : World} {a : Option Addr} {n c : Nat} {l : List Hash} (h : HsAt w (.slice a n c) l) : l.length ≤ c := by
  obtain ⟨_, c', hv, hle, _⟩ := h
  simp only [Value.slice.injEq] at hv
  omega

set_option maxRecDepth 100000 in
set_option maxHeartbeats 1000000 in
theorem treesHalves_calls (p o s : UInt8) (w : World) (hg : GL w) :
    Calls Tryd.prog 4 #[U8 p, U8 o, U8 s] w fun e w' => e = .returned (.bool true) ∧ Cl w [] [] w' := by
  obtain ⟨j, hj⟩ : ∃ j, j = (p % 6).toNat := ⟨_, rfl⟩
  have hj6 : j < 6 := by rw [hj, UInt8.toNat_mod]; exact Nat.mod_lt _ (by decide)
  obtain ⟨k, hk⟩ : ∃ k, k = 2 ^ j := ⟨_, rfl⟩
  have hk1 : 1 ≤ k := by rw [hk]; exact Nat.two_pow_pos j
  have hk2 : k ≤ 32 := by rw [hk]; exact Nat.le_trans (Nat.pow_le_pow_right (by decide) (show j ≤ 5 by omega)) (by decide)
  have hsh : IntKind.i64.wrap (1 * 2 ^ min ((p % 6).toNat : Int).toNat IntKind.i64.bits) = (k : Int) := by
    rw [hk, ← hj]
    have : j = 0 ∨ j = 1 ∨ j = 2 ∨ j = 3 ∨ j = 4 ∨ j = 5 := by omega
    rcases this with h | h | h | h | h | h <;> rw [h] <;> decide
  obtain ⟨m, hm⟩ : ∃ m, m = 1 + o.toNat % k := ⟨_, rfl⟩
  have hmk : o.toNat % k < k := Nat.mod_lt _ hk1
  have hmi : (1 + (o.toNat : Int) % (k : Int)) = (m : Int) := by rw [hm]; simp
  have hsp : sp (k + m) = k := by rw [hk]; exact sp_of (by rw [← hk]; omega) (by rw [Nat.pow_succ, ← hk]; omega)
  obtain ⟨l, hl⟩ : ∃ l, l = someL s (k + m) := ⟨_, rfl⟩
  have hln : l.length = k + m := by rw [hl, someL_length]
  have hroot : rootL l = node (rootL (l.take k)) (rootL (l.drop k)) := by rw [rootL_more _ (by omega), hln, hsp]
  refine calls_of_CW (L := []) Tryd.func4 rfl (Nat.le_of_ble_eq_true rfl) (Cl.refl _) ?_
  refine CW.seq_k fun K1 hK1 => ?_
  refine CW.region ?_
  refine OW.q rfl rfl (yq_assign rfl (by (conv => lhs; whnf) <;> rfl)) ?_
  refine OW.nil ?_
  refine hK1 _ _ ?_
  refine CW.seq_k fun K2 hK2 => ?_
  refine CW.region ?_
  refine OW.q rfl rfl (yq_move rfl (by (conv => lhs; whnf) <;> rfl)) ?_
  refine OW.q rfl rfl (yq_rem_u8 (b := 6) rfl (by (conv => lhs; whnf) <;> rfl) (by (conv => lhs; whnf) <;> rfl) (by decide)) ?_
  refine OW.q rfl rfl (yq_shl_e rfl (by (conv => lhs; whnf) <;> rfl) (by (conv => lhs; whnf) <;> rfl) (by omega) hsh) ?_
  refine OW.q rfl rfl (yq_assign rfl (by (conv => lhs; whnf) <;> rfl)) ?_
  refine OW.nil ?_
  refine hK2 _ _ ?_
  refine CW.seq_k fun K3 hK3 => ?_
  refine CW.region ?_
  refine OW.q rfl rfl (yq_move rfl (by (conv => lhs; whnf) <;> rfl)) ?_
  refine OW.q rfl rfl (yq_conv_u8_i64 rfl Tryd.underlying5 Tryd.underlying3 (by (conv => lhs; whnf) <;> rfl)) ?_
  refine OW.q rfl rfl (yq_move rfl (by (conv => lhs; whnf) <;> rfl)) ?_
  refine OW.q rfl rfl (yq_rem rfl (by (conv => lhs; whnf) <;> rfl) (by (conv => lhs; whnf) <;> rfl) (by omega)) ?_
  refine OW.q rfl rfl (yq_add_e (r := (m : Int)) rfl (by (conv => lhs; whnf) <;> rfl) (by (conv => lhs; whnf) <;> rfl) (by rw [hmi, wrap64_in (by omega)])) ?_
  refine OW.q rfl rfl (yq_assign rfl (by (conv => lhs; whnf) <;> rfl)) ?_
  refine OW.nil ?_
  refine hK3 _ _ ?_
  refine CW.seq_k fun K4 hK4 => ?_
  refine CW.region ?_
  refine OW.q rfl rfl (yq_move rfl (by (conv => lhs; whnf) <;> rfl)) ?_
  refine OW.q rfl rfl (yq_move rfl (by (conv => lhs; whnf) <;> rfl)) ?_
  refine OW.q rfl rfl (yq_add_e (r := ((k + m : Nat) : Int)) rfl (by (conv => lhs; whnf) <;> rfl) (by (conv => lhs; whnf) <;> rfl) (by rw [wrap64_in (by omega)]; omega)) ?_
  refine OW.q rfl rfl (yq_move rfl (by (conv => lhs; whnf) <;> rfl)) ?_
  refine OW.calln rfl rfl rfl (by (conv => lhs; whnf) <;> rfl) (.cons (by (conv => lhs; whnf) <;> rfl) (.cons (by (conv => lhs; whnf) <;> rfl) .nil)) en26 (fun w hw => some_calls (k + m) s w (by omega)) ?_
  rintro _ _ ⟨a, cap, rfl, rfl⟩
  refine OW.know _ (know_row (List.mem_cons_self ..) (by omega)) ?_
  rintro ⟨g, rfl⟩
  rw [← hl]
  have hs0 : ∀ w1, Cl w [] [.row (some g) cap (k + m) 25 32 (l.flatMap hc)] w1 → HsAt w1 (rowV (some g) (k + m) cap) l := fun w1 hw1 => HsAt.row hln.symm (hw1.own _ (List.mem_cons_self ..))
  have hs : ∀ w1, Cl w [] [.row (some g) cap (k + m) 25 32 (l.flatMap hc)] w1 → HsAt w1 (.slice (some ⟨g, 0, none⟩) l.length cap) l := fun w1 hw1 => by rw [hln]; exact hs0 w1 hw1
  refine OW.know (k + m ≤ cap) (fun w1 hw1 => by rw [← hln]; exact hsAt_cap (hs w1 hw1)) ?_
  intro hcap
  refine OW.q rfl rfl (yq_assign rfl (by (conv => lhs; whnf) <;> rfl)) ?_
  refine OW.nil ?_
  refine hK4 _ _ ?_
  refine CW.seq_k fun K5 hK5 => ?_
  refine CW.draw mixed (by kernel_rfl) ?_
  refine QW.q rfl rfl (yq_move rfl (by (conv => lhs; whnf) <;> rfl)) ?_
  refine QW.q rfl rfl (yq_call rfl rfl (.cons (by (conv => lhs; whnf) <;> rfl) .nil) en24 (fun w hw => root_calls _ l w (hs0 w hw) (by omega) (Cl_gl0 hw hg))) ?_
  refine QW.q rfl rfl (yq_move rfl (by (conv => lhs; whnf) <;> rfl)) ?_
  refine QW.q rfl rfl (yq_move rfl (by (conv => lhs; whnf) <;> rfl)) ?_
  refine QW.q rfl rfl (yq_slice_slice (b := g) (off := 0) (len := k + m) (cap := cap) (l := 0) (h := k) rfl (by (conv => lhs; whnf) <;> rfl) ts22 ti25 rfl ⟨_, _, (by (conv => lhs; whnf) <;> rfl), by omega, by omega⟩ (by omega) (by omega)) ?_
  refine QW.q rfl rfl (yq_call rfl rfl (.cons (by (conv => lhs; whnf) <;> rfl) .nil) en24 (fun w hw => root_calls _ (l.take k) w (by have := (hs w hw).slice 0 k (by omega) (by omega); rwa [List.drop_zero, Nat.sub_zero] at this) (by rw [List.length_take]; omega) (Cl_gl0 hw hg))) ?_
  refine QW.q rfl rfl (yq_move rfl (by (conv => lhs; whnf) <;> rfl)) ?_
  refine QW.q rfl rfl (yq_move rfl (by (conv => lhs; whnf) <;> rfl)) ?_
  refine QW.q rfl rfl (yq_slice_slice (b := g) (off := 0) (len := k + m) (cap := cap) (l := k) (h := k + m) rfl (by (conv => lhs; whnf) <;> rfl) ts22 ti25 ⟨_, _, (by (conv => lhs; whnf) <;> rfl), by omega, by omega⟩ rfl (by omega) (by omega)) ?_
  refine QW.q rfl rfl (yq_call rfl rfl (.cons (by (conv => lhs; whnf) <;> rfl) .nil) en24 (fun w hw => root_calls _ (l.drop k) w (by have := (hs w hw).slice k l.length (by omega) (by omega); rw [List.take_of_length_le (by simp)] at this; rwa [hln] at this) (by rw [List.length_drop]; omega) (Cl_gl0 hw hg))) ?_
  refine QW.q rfl rfl (yq_call rfl rfl (.cons (by (conv => lhs; whnf) <;> rfl) ( .cons (by (conv => lhs; whnf) <;> rfl) .nil)) en27 (fun w hw => node_calls _ _ w (Cl_gl0 hw hg))) ?_
  refine QW.q rfl rfl ((yq_eql_H rfl (by (conv => lhs; whnf) <;> rfl) (by (conv => lhs; whnf) <;> rfl) ta25 Tryd.underlying5 ti5 eg25).to (v' := .bool true) (by rw [decide_eq_true hroot])) ?_
  refine QW.q rfl rfl (yq_move rfl (by (conv => lhs; whnf) <;> rfl)) ?_
  refine QW.q rfl rfl (yq_move rfl (by (conv => lhs; whnf) <;> rfl)) ?_
  refine QW.q rfl rfl (yq_move rfl (by (conv => lhs; whnf) <;> rfl)) ?_
  refine QW.q rfl rfl (yq_add_e (r := ((k + m : Nat) : Int)) rfl (by (conv => lhs; whnf) <;> rfl) (by (conv => lhs; whnf) <;> rfl) (by rw [wrap64_in (by omega)]; omega)) ?_
  refine QW.q rfl rfl (yq_call rfl rfl (.cons (by (conv => lhs; whnf) <;> rfl) .nil) en28 (fun w hw => split_c _ (k : Int) w (by rw [spI_nat, hsp]) (by omega) (by omega))) ?_
  refine QW.q rfl rfl (yq_move rfl (by (conv => lhs; whnf) <;> rfl)) ?_
  refine QW.q rfl rfl ((yq_eql rfl (by (conv => lhs; whnf) <;> rfl) (by (conv => lhs; whnf) <;> rfl)).to (v' := .bool true) (by rw [decide_eq_true rfl])) ?_
  refine QW.q rfl rfl (yq_pick rfl (by (conv => lhs; whnf) <;> rfl) (by (conv => lhs; whnf) <;> rfl)) ?_
  refine QW.q rfl rfl (yq_move rfl (by (conv => lhs; whnf) <;> rfl)) ?_
  refine QW.q rfl rfl (yq_call rfl rfl .nil en23 (fun w hw => grown_calls w (Cl_gl0 hw hg))) ?_
  refine QW.q rfl rfl (yq_pick rfl (by (conv => lhs; whnf) <;> rfl) (by (conv => lhs; whnf) <;> rfl)) ?_
  refine QW.q rfl rfl (yq_assign rfl (by (conv => lhs; whnf) <;> rfl)) ?_
  refine QW.nil ?_
  refine hK5 _ _ ?_
  refine CW.ret ?_
  -- ret (ret)
  exact fin1 (Or.inr rfl) rfl ⟨by decide, (by (conv => lhs; whnf) <;> rfl)⟩ (fun w hw => ⟨rfl, hw.sub (by simp)⟩)

set_option maxRecDepth 100000 in
set_option maxHeartbeats 1000000 in
theorem treesHash_calls (s : Bytes) (h0 h1 : Hash) (n : Int) (w : World) (hn1 : -9223372036854775808 ≤ n) (hn2 : n ≤ 9223372036854775807) (hg : GL w) :
    Calls Tryd.prog 6 #[.string (bs s), .agg (hc h0 ++ hc h1).toArray, .int .i64 n] w fun e w' => e = .returned (.bool true) ∧ Cl w [] [] w' := by
  have hl0 : ∀ (j : Nat) (u : Value), (hc h0)[j]? = some u → (hc h0 ++ hc h1)[0 + (0 : Int).toNat * 32 + j]? = some u := fun j u hu => by
    have hj : j < (hc h0).length := by
      rcases Nat.lt_or_ge j (hc h0).length with h | h
      · exact h
      · rw [List.getElem?_eq_none h] at hu; cases hu
    rw [show 0 + (0 : Int).toNat * 32 + j = j by omega, List.getElem?_append_left hj]; exact hu
  have hl1 : ∀ (j : Nat) (u : Value), (hc h1)[j]? = some u → (hc h0 ++ hc h1)[0 + (1 : Int).toNat * 32 + j]? = some u := fun j u hu => by
    rw [show 0 + (1 : Int).toNat * 32 + j = (hc h0).length + j by rw [hc_length]; omega, List.getElem?_append_right (by omega), Nat.add_sub_cancel_left]; exact hu
  refine calls_of_CW (L := []) Tryd.func6 rfl (Nat.le_of_ble_eq_true rfl) (Cl.refl _) ?_
  refine CW.seq_k fun K1 hK1 => ?_
  refine CW.region ?_
  refine OW.box (cs := hc h0 ++ hc h1) rfl rfl rfl (by (conv => lhs; whnf) <;> rfl) rfl (fun b4 => ?_)
  refine OW.q rfl rfl (yq_assign rfl (by (conv => lhs; whnf) <;> rfl)) ?_
  refine OW.nil ?_
  refine hK1 _ _ ?_
  refine CW.seq_k fun K2 hK2 => ?_
  refine CW.seq_k fun K3 hK3 => ?_
  refine CW.region ?_
  refine OW.q rfl rfl (yq_move rfl (by (conv => lhs; whnf) <;> rfl)) ?_
  refine OW.q rfl rfl (yq_len_bs rfl tt9 (by (conv => lhs; whnf) <;> rfl)) ?_
  refine OW.q rfl rfl (yq_gtr rfl (by (conv => lhs; whnf) <;> rfl) (by (conv => lhs; whnf) <;> rfl)) ?_
  refine OW.nil ?_
  refine hK3 _ _ ?_
  refine CW.cond_dec (by (conv => lhs; whnf) <;> rfl) (fun hc0 => ?_) (fun hc0 => ?_)
  · refine CW.seq_k fun K4 hK4 => ?_
    refine CW.region ?_
    refine OW.q rfl rfl (yq_call rfl rfl .nil en23 (fun w hw => grown_calls w (Cl_gl0 hw hg))) ?_
    refine OW.q rfl rfl (yq_assign rfl (by (conv => lhs; whnf) <;> rfl)) ?_
    refine OW.nil ?_
    refine hK4 _ _ ?_
    refine CW.ret ?_
    refine then_ret ?_
    -- ret (ret)
    exact fin1 (Or.inr rfl) rfl ⟨by decide, (by (conv => lhs; whnf) <;> rfl)⟩ (fun w hw => ⟨rfl, hw.sub (by simp)⟩)
  · have hs1000 : s.length ≤ 1000 := by omega
    refine CW.skip ?_
    refine hK2 _ _ ?_
    refine CW.seq_k fun K5 hK5 => ?_
    refine CW.draw mixed (by kernel_rfl) ?_
    refine QW.q rfl rfl (yq_move rfl (by (conv => lhs; whnf) <;> rfl)) ?_
    refine QW.q rfl rfl (yq_call rfl rfl (.cons (by (conv => lhs; whnf) <;> rfl) .nil) en36 (fun w hw => leaf_calls s w (by omega) (Cl_gl0 hw hg))) ?_
    refine QW.q rfl rfl (yq_move rfl (by (conv => lhs; whnf) <;> rfl)) ?_
    refine QW.q rfl rfl (yq_call rfl rfl (.cons (by (conv => lhs; whnf) <;> rfl) .nil) en37 (fun w hw => refleaf_calls s w (by omega))) ?_
    refine QW.q rfl rfl ((yq_eql_H rfl (by (conv => lhs; whnf) <;> rfl) (by (conv => lhs; whnf) <;> rfl) ta25 Tryd.underlying5 ti5 eg25).to (v' := .bool true) (by rw [decide_eq_true rfl])) ?_
    refine QW.q rfl rfl (yq_move rfl (by (conv => lhs; whnf) <;> rfl)) ?_
    refine QW.q rfl rfl (yq_index_arr rfl (by (conv => lhs; whnf) <;> rfl) (by (conv => lhs; whnf) <;> rfl) ta55 ti25 (by decide) (by decide)) ?_
    refine QW.q rfl rfl (yq_loadA (vs := hc h0) rfl (by (conv => lhs; whnf) <;> rfl) (by rw [hc_length]; exact ti25) (List.mem_cons_self ..) hl0) ?_
    refine QW.q rfl rfl (yq_index_arr rfl (by (conv => lhs; whnf) <;> rfl) (by (conv => lhs; whnf) <;> rfl) ta55 ti25 (by decide) (by decide)) ?_
    refine QW.q rfl rfl (yq_loadA (vs := hc h1) rfl (by (conv => lhs; whnf) <;> rfl) (by rw [hc_length]; exact ti25) (List.mem_cons_self ..) hl1) ?_
    refine QW.q rfl rfl (yq_call rfl rfl (.cons (by (conv => lhs; whnf) <;> rfl) ( .cons (by (conv => lhs; whnf) <;> rfl) .nil)) en27 (fun w hw => node_calls _ _ w (Cl_gl0 hw hg))) ?_
    refine QW.q rfl rfl (yq_index_arr rfl (by (conv => lhs; whnf) <;> rfl) (by (conv => lhs; whnf) <;> rfl) ta55 ti25 (by decide) (by decide)) ?_
    refine QW.q rfl rfl (yq_loadA (vs := hc h0) rfl (by (conv => lhs; whnf) <;> rfl) (by rw [hc_length]; exact ti25) (List.mem_cons_self ..) hl0) ?_
    refine QW.q rfl rfl (yq_index_arr rfl (by (conv => lhs; whnf) <;> rfl) (by (conv => lhs; whnf) <;> rfl) ta55 ti25 (by decide) (by decide)) ?_
    refine QW.q rfl rfl (yq_loadA (vs := hc h1) rfl (by (conv => lhs; whnf) <;> rfl) (by rw [hc_length]; exact ti25) (List.mem_cons_self ..) hl1) ?_
    refine QW.q rfl rfl (yq_call rfl rfl (.cons (by (conv => lhs; whnf) <;> rfl) ( .cons (by (conv => lhs; whnf) <;> rfl) .nil)) en38 (fun w hw => refnode_calls _ _ w)) ?_
    refine QW.q rfl rfl ((yq_eql_H rfl (by (conv => lhs; whnf) <;> rfl) (by (conv => lhs; whnf) <;> rfl) ta25 Tryd.underlying5 ti5 eg25).to (v' := .bool true) (by rw [decide_eq_true rfl])) ?_
    refine QW.q rfl rfl (yq_pick rfl (by (conv => lhs; whnf) <;> rfl) (by (conv => lhs; whnf) <;> rfl)) ?_
    refine QW.q rfl rfl (yq_move rfl (by (conv => lhs; whnf) <;> rfl)) ?_
    refine QW.q rfl rfl (yq_move rfl (by (conv => lhs; whnf) <;> rfl)) ?_
    refine QW.q rfl rfl (yq_call rfl rfl (.cons (by (conv => lhs; whnf) <;> rfl) .nil) en28 (fun w hw => split_calls n w hn1 hn2)) ?_
    refine QW.q rfl rfl (yq_move rfl (by (conv => lhs; whnf) <;> rfl)) ?_
    refine QW.q rfl rfl (yq_call rfl rfl (.cons (by (conv => lhs; whnf) <;> rfl) .nil) en39 (fun w hw => refsplit_calls n w hn1 hn2)) ?_
    refine QW.q rfl rfl ((yq_eql rfl (by (conv => lhs; whnf) <;> rfl) (by (conv => lhs; whnf) <;> rfl)).to (v' := .bool true) (by rw [decide_eq_true rfl])) ?_
    refine QW.q rfl rfl (yq_pick rfl (by (conv => lhs; whnf) <;> rfl) (by (conv => lhs; whnf) <;> rfl)) ?_
    refine QW.q rfl rfl (yq_move rfl (by (conv => lhs; whnf) <;> rfl)) ?_
    refine QW.q rfl rfl (yq_move rfl (by (conv => lhs; whnf) <;> rfl)) ?_
    refine QW.q rfl rfl (yq_len_bs rfl tt9 (by (conv => lhs; whnf) <;> rfl)) ?_
    refine QW.q rfl rfl (yq_call rfl rfl (.cons (by (conv => lhs; whnf) <;> rfl) .nil) en28 (fun w hw => split_calls _ w (by omega) (by omega))) ?_
    refine QW.q rfl rfl (yq_move rfl (by (conv => lhs; whnf) <;> rfl)) ?_
    refine QW.q rfl rfl (yq_len_bs rfl tt9 (by (conv => lhs; whnf) <;> rfl)) ?_
    refine QW.q rfl rfl (yq_call rfl rfl (.cons (by (conv => lhs; whnf) <;> rfl) .nil) en39 (fun w hw => refsplit_calls _ w (by omega) (by omega))) ?_
    refine QW.q rfl rfl ((yq_eql rfl (by (conv => lhs; whnf) <;> rfl) (by (conv => lhs; whnf) <;> rfl)).to (v' := .bool true) (by rw [decide_eq_true rfl])) ?_
    refine QW.q rfl rfl (yq_pick rfl (by (conv => lhs; whnf) <;> rfl) (by (conv => lhs; whnf) <;> rfl)) ?_
    refine QW.q rfl rfl (yq_move rfl (by (conv => lhs; whnf) <;> rfl)) ?_
    refine QW.q rfl rfl (yq_call rfl rfl .nil en23 (fun w hw => grown_calls w (Cl_gl0 hw hg))) ?_
    refine QW.q rfl rfl (yq_pick rfl (by (conv => lhs; whnf) <;> rfl) (by (conv => lhs; whnf) <;> rfl)) ?_
    refine QW.q rfl rfl (yq_assign rfl (by (conv => lhs; whnf) <;> rfl)) ?_
    refine QW.nil ?_
    refine hK5 _ _ ?_
    refine CW.ret ?_
    -- ret (ret)
    exact fin1 (Or.inr rfl) rfl ⟨by decide, (by (conv => lhs; whnf) <;> rfl)⟩ (fun w hw => ⟨rfl, hw.sub (by simp)⟩)

end Go.Proofs.YtahdekllphehkaaDoor
