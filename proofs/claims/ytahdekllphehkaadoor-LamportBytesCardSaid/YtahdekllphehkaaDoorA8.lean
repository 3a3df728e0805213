/- Hashes as texts, nodes, leaves, halves; no statement of the seat is proved here. -/
import Derived.Test.YtahdekllphehkaaDoorA7
import Derived.Test.YtahdekllphehkaaDoorL10
set_option linter.unusedVariables false
set_option linter.unusedSimpArgs false
namespace Go.Proofs.YtahdekllphehkaaDoor
open Go.WL Go.Spec

theorem eg25 : Tryd.prog.eqGuardType Tryd.prog.depth 25 = false := by kernel_rfl
/-- A hash as a text. -/
def hb (h : Hash) : Bytes := h.toList
theorem hb_length (h : Hash) : (hb h).length = 32 := by simp [hb]
theorem hc_hb (h : Hash) : hc h = bc (hb h) := rfl
/-- How many leaves the left half has. -/
def sp (n : Nat) : Nat := if n < 2 then 0 else 2 ^ (n - 1).log2
def spI (n : Int) : Int := (sp n.toNat : Int)
theorem sp_of {n j : Nat} (h1 : 2 ^ j < n) (h2 : n ≤ 2 ^ (j + 1)) : sp n = 2 ^ j := by
  have hp : 0 < 2 ^ j := Nat.two_pow_pos j
  unfold sp
  rw [if_neg (by omega)]
  congr 1
  exact (Nat.log2_eq_iff (by omega)).2 ⟨by omega, by omega⟩
theorem sp_pos {n : Nat} (h : 2 ≤ n) : 0 < sp n := by unfold sp; rw [if_neg (by omega)]; exact Nat.two_pow_pos _
theorem sp_lt {n : Nat} (h : 2 ≤ n) : sp n < n := by
  unfold sp
  rw [if_neg (by omega)]
  have := Nat.log2_self_le (n := n - 1) (by omega)
  omega
theorem sp_zero {n : Nat} (h : n < 2) : sp n = 0 := by unfold sp; rw [if_pos h]
theorem sp_ge {n : Nat} (h : 2 ≤ n) : n ≤ 2 * sp n := by
  unfold sp
  rw [if_neg (by omega)]
  have := Nat.lt_log2_self (n := n - 1)
  rw [Nat.pow_succ] at this
  omega
def node (a b : Hash) : Hash := sha (1 :: hb a ++ hb b)
def leaf (s : Bytes) : Hash := sha (0 :: s)
def rootL (l : List Hash) : Hash :=
  if h0 : l.length = 0 then sha []
  else if h1 : l.length = 1 then l.getD 0 zeroHash
  else node (rootL (l.take (sp l.length))) (rootL (l.drop (sp l.length)))
termination_by l.length
decreasing_by
  · have := sp_lt (n := l.length) (by omega); simp; omega
  · have := sp_pos (n := l.length) (by omega); simp; omega
theorem rootL_nil : rootL [] = sha [] := by rw [rootL]; simp
theorem rootL_one (a : Hash) : rootL [a] = a := by rw [rootL]; simp
theorem rootL_more (l : List Hash) (h : 2 ≤ l.length) : rootL l = node (rootL (l.take (sp l.length))) (rootL (l.drop (sp l.length))) := by
  rw [rootL, dif_neg (by omega), dif_neg (by omega)]
attribute [irreducible] node leaf sp
theorem node_eq (a b : Hash) : node a b = sha ([1] ++ hb a ++ hb b) := by unfold node; rfl
theorem leaf_eq (s : Bytes) : leaf s = sha ([0] ++ s) := by unfold leaf; rfl

set_option maxRecDepth 100000 in
set_option maxHeartbeats 1000000 in
theorem hash_calls (h : Hash) (w : World) :
    Calls Tryd.prog 103 #[HV h] w fun e w' => e = .returned (.string (bs (hb h))) ∧ Cl w [] [] w' := by
  refine calls_of_CW (L := []) Tryd.func103 rfl (Nat.le_of_ble_eq_true rfl) (Cl.refl _) ?_
  refine CW.seq_k fun K1 hK1 => ?_
  refine CW.region ?_
  refine OW.box (cs := hc h) rfl rfl rfl (by (conv => lhs; whnf) <;> rfl) rfl (fun b => ?_)
  refine OW.q rfl rfl (yq_assign rfl (by (conv => lhs; whnf) <;> rfl)) ?_
  refine OW.nil ?_
  refine hK1 _ _ ?_
  refine CW.seq_k fun K2 hK2 => ?_
  refine CW.region ?_
  refine OW.q rfl rfl (yq_slice_arr_all (k := 31) rfl (by (conv => lhs; whnf) <;> rfl) ta25 ti5) ?_
  refine OW.q rfl rfl (yq_conv_bytes (l := hb h) rfl ts92 Tryd.underlying5 tt9 (by (conv => lhs; whnf) <;> rfl) (hb_length h) (blk_cells (cs := bc (hb h)) (List.mem_cons_self ..))) ?_
  refine OW.q rfl rfl (yq_assign rfl (by (conv => lhs; whnf) <;> rfl)) ?_
  refine OW.nil ?_
  refine hK2 _ _ ?_
  refine CW.ret ?_
  -- ret (ret)
  exact fin1 (Or.inr rfl) rfl ⟨by decide, (by (conv => lhs; whnf) <;> rfl)⟩ (fun w hw => ⟨rfl, hw.sub (by simp)⟩)

set_option maxRecDepth 100000 in
set_option maxHeartbeats 1000000 in
theorem refhash_calls (h : Hash) (w : World) :
    Calls Tryd.prog 114 #[HV h] w fun e w' => e = .returned (.string (bs (hb h))) ∧ Cl w [] [] w' := by
  have hl := hb_length h
  refine calls_of_CW (L := []) Tryd.func114 rfl (Nat.le_of_ble_eq_true rfl) (Cl.refl _) ?_
  refine CW.seq_k fun K1 hK1 => ?_
  refine CW.region ?_
  refine OW.box (cs := hc h) rfl rfl rfl (by (conv => lhs; whnf) <;> rfl) rfl (fun b => ?_)
  refine OW.q rfl rfl (yq_assign rfl (by (conv => lhs; whnf) <;> rfl)) ?_
  refine OW.nil ?_
  refine hK1 _ _ ?_
  refine CW.seq_k fun K2 hK2 => ?_
  refine CW.region ?_
  refine OW.q rfl rfl (yq_assign rfl (by (conv => lhs; whnf) <;> rfl)) ?_
  refine OW.nilrow 5 1 ?_
  refine OW.nil ?_
  refine hK2 _ _ ?_
  refine CW.seq_k fun K3 hK3 => ?_
  refine CW.seq_k fun K4 hK4 => ?_
  refine CW.region ?_
  refine OW.q rfl rfl (yq_assign rfl (by (conv => lhs; whnf) <;> rfl)) ?_
  refine OW.nil ?_
  refine hK4 _ _ ?_
  refine CW.block ?_
  refine CW.loop (σ := Nat) (fun i ρ L => ∃ a cap, Has ρ [(1, .pointer (some ⟨b, 0, none⟩)), (3, rowV a i cap), (4, .int .i64 (i : Int))] ∧ i ≤ 32 ∧ L = [.row a cap i 5 1 (bc ((hb h).take i)), .blk b (hc h) 25 (0, 0)]) (fun i => 32 - i) (0) ?_ ?_
  · exact ⟨none, 0, Has.mk ⟨(by (conv => lhs; whnf) <;> rfl), (by (conv => lhs; whnf) <;> rfl), (by (conv => lhs; whnf) <;> rfl), trivial⟩, Nat.zero_le _, rfl⟩
  · rintro i _ _ ⟨a, cap, ⟨ρ', rfl⟩, hi, rfl⟩
    refine CW.seq_k fun K5 hK5 => ?_
    refine CW.seq_k fun K6 hK6 => ?_
    refine CW.region ?_
    refine OW.q rfl rfl (yq_move rfl (by (conv => lhs; whnf) <;> rfl)) ?_
    refine OW.q rfl rfl (yq_lss rfl (by (conv => lhs; whnf) <;> rfl) (by (conv => lhs; whnf) <;> rfl)) ?_
    refine OW.nil ?_
    refine hK6 _ _ ?_
    refine CW.cond_dec (by (conv => lhs; whnf) <;> rfl) (fun hc1 => ?_) (fun hc1 => ?_)
    · have hlt : i < 32 := by omega
      refine CW.skip ?_
      refine hK5 _ _ ?_
      refine CW.seq_k fun K7 hK7 => ?_
      refine CW.block ?_
      refine CW.region ?_
      refine OW.q rfl rfl (yq_move rfl (by (conv => lhs; whnf) <;> rfl)) ?_
      refine OW.q rfl rfl (yq_move rfl (by (conv => lhs; whnf) <;> rfl)) ?_
      refine OW.q rfl rfl (yq_index_arr rfl (by (conv => lhs; whnf) <;> rfl) (by (conv => lhs; whnf) <;> rfl) ta25 ti5 (by omega) (by omega)) ?_
      refine OW.q rfl rfl (yq_load1 (v := U8 ((hb h).getD i 0)) rfl (by (conv => lhs; whnf) <;> rfl) ti5 (List.mem_cons_of_mem _ (List.mem_cons_self ..)) (by rw [h1off, hc_hb]; exact bc_at _ _ (by omega))) ?_
      refine OW.slicelit (vs := [U8 ((hb h).getD i 0)]) rfl rfl rfl rfl ts92 ti5 tz5 (by decide) rfl (by decide) (by simp [Value.cells]) (by decide) rfl (fun bl => ?_)
      refine OW.append (news := [_]) rfl rfl rfl (by (conv => lhs; whnf) <;> rfl) (by (conv => lhs; whnf) <;> rfl) ts92 ti5 tz5 (.tail .head) (blk_cells (List.mem_cons_self ..)) rfl (by simp; rfl) rfl (by decide) (by simp only [maxLen]; omega) (by omega) (fun a' cap' => ?_)
      refine OW.drop ((List.sublist_cons_self _ _).cons_cons _) ?_
      have hrow : bc (List.take i (hb h)) ++ [U8 ((hb h).getD i 0)] = bc (List.take (i + 1) (hb h)) := by rw [List.take_succ_eq_append_getElem (by omega), List.getD_eq_getElem?_getD, List.getElem?_eq_getElem (by omega)]; simp only [bc, List.map_append, List.map_cons, List.map_nil]; rfl
      refine OW.q rfl rfl (yq_assign rfl (by (conv => lhs; whnf) <;> rfl)) ?_
      refine OW.nil ?_
      refine hK7 _ _ ?_
      refine CW.region ?_
      refine OW.q rfl rfl (yq_move rfl (by (conv => lhs; whnf) <;> rfl)) ?_
      refine OW.q rfl rfl (yq_add rfl (by (conv => lhs; whnf) <;> rfl) (by (conv => lhs; whnf) <;> rfl) (by omega)) ?_
      refine OW.q rfl rfl (yq_assign rfl (by (conv => lhs; whnf) <;> rfl)) ?_
      refine OW.nil ?_
      exact ⟨i + 1, ⟨a', cap', Has.mk ⟨(by (conv => lhs; whnf) <;> rfl), (by (conv => lhs; whnf) <;> rfl), (by (conv => lhs; whnf) <;> rfl), trivial⟩, by omega, by rw [hrow]⟩, by omega⟩
    · have hi32 : i = 32 := by omega
      clear hi hc1
      subst hi32
      refine CW.exit ?_
      refine then_exit ?_
      refine then_exit ?_
      refine blockQ_hit ?_
      refine hK3 _ _ ?_
      refine CW.seq_k fun K8 hK8 => ?_
      refine CW.region ?_
      refine OW.q rfl rfl (yq_move rfl (by (conv => lhs; whnf) <;> rfl)) ?_
      refine OW.know _ (know_row (List.mem_cons_self ..) (by decide)) ?_
      rintro ⟨g, rfl⟩
      refine OW.q rfl rfl (yq_conv_bytes (l := hb h) rfl ts92 Tryd.underlying5 tt9 (by (conv => lhs; whnf) <;> rfl) (hb_length h) (fun w hw j u hu => row_cells (List.mem_cons_self ..) w hw j u (by rw [List.take_of_length_le (Nat.le_of_eq hl)]; exact hu))) ?_
      refine OW.q rfl rfl (yq_assign rfl (by (conv => lhs; whnf) <;> rfl)) ?_
      refine OW.nil ?_
      refine hK8 _ _ ?_
      refine CW.ret ?_
      -- ret (ret)
      exact fin1 (Or.inr rfl) rfl ⟨by decide, (by (conv => lhs; whnf) <;> rfl)⟩ (fun w hw => ⟨rfl, hw.sub (by simp)⟩)

set_option maxRecDepth 100000 in
set_option maxHeartbeats 1000000 in
theorem node_calls (a b : Hash) (w : World) (hg : GL w) :
    Calls Tryd.prog 27 #[HV a, HV b] w fun e w' => e = .returned (HV (node a b)) ∧ Cl w [] [] w' := by
  have hla := hb_length a
  have hlb := hb_length b
  refine calls_of_CW (L := []) Tryd.func27 rfl (Nat.le_of_ble_eq_true rfl) (Cl.refl _) ?_
  refine CW.seq_k fun K1 hK1 => ?_
  refine CW.region ?_
  refine OW.box (cs := hc a) rfl rfl rfl (by (conv => lhs; whnf) <;> rfl) rfl (fun b2 => ?_)
  refine OW.box (cs := hc b) rfl rfl rfl (by (conv => lhs; whnf) <;> rfl) rfl (fun b3 => ?_)
  refine OW.alloc rfl rfl rfl tz25 (fun b4 => ?_)
  refine OW.nil ?_
  refine hK1 _ _ ?_
  refine CW.seq_k fun K2 hK2 => ?_
  refine CW.drawT 7 mixed (by kernel_rfl) ?_
  refine QW.q rfl rfl (yq_loadH (v := a) rfl (by (conv => lhs; whnf) <;> rfl) ti25 (List.mem_cons_of_mem _ (List.mem_cons_of_mem _ (List.mem_cons_self ..)))) ?_
  refine QW.q rfl rfl (yq_call rfl rfl (.cons (by (conv => lhs; whnf) <;> rfl) .nil) en103 (fun w hw => hash_calls _ w)) ?_
  refine QW.q rfl rfl (yq_add_bs (a := [1]) rfl (by (conv => lhs; whnf) <;> rfl) (by (conv => lhs; whnf) <;> rfl) (by simp only [List.length_cons, List.length_nil]; omega)) ?_
  refine QW.q rfl rfl (yq_loadH (v := b) rfl (by (conv => lhs; whnf) <;> rfl) ti25 (List.mem_cons_of_mem _ (List.mem_cons_self ..))) ?_
  refine QW.q rfl rfl (yq_call rfl rfl (.cons (by (conv => lhs; whnf) <;> rfl) .nil) en103 (fun w hw => hash_calls _ w)) ?_
  refine QW.q rfl rfl (yq_add_bs rfl (by (conv => lhs; whnf) <;> rfl) (by (conv => lhs; whnf) <;> rfl) (by simp only [List.length_append, List.length_cons, List.length_nil]; omega)) ?_
  refine QW.q rfl rfl (yq_call rfl rfl (.cons (by (conv => lhs; whnf) <;> rfl) .nil) en100 (fun w hw => sum_calls _ w (by simp [hb_length]) (Cl_gl0 hw hg))) ?_
  refine QW.nil ?_
  refine OW.storeH rfl rfl rfl (by (conv => lhs; whnf) <;> rfl) (by (conv => lhs; whnf) <;> rfl) ti25 .head (hc_length _) ?_
  refine OW.nil ?_
  refine hK2 _ _ ?_
  refine CW.ret ?_
  -- ret (ret)
  rw [node_eq]
  exact fin1 (Or.inr rfl) rfl (rv_hash (by decide) (by (conv => lhs; whnf) <;> rfl) ti25 (List.mem_cons_self ..)) (fun w hw => ⟨rfl, hw.sub (by simp)⟩)

set_option maxRecDepth 100000 in
set_option maxHeartbeats 1000000 in
theorem refnode_calls (a b : Hash) (w : World) :
    Calls Tryd.prog 38 #[HV a, HV b] w fun e w' => e = .returned (HV (node a b)) ∧ Cl w [] [] w' := by
  have hla := hb_length a
  have hlb := hb_length b
  refine calls_of_CW (L := []) Tryd.func38 rfl (Nat.le_of_ble_eq_true rfl) (Cl.refl _) ?_
  refine CW.seq_k fun K1 hK1 => ?_
  refine CW.region ?_
  refine OW.box (cs := hc a) rfl rfl rfl (by (conv => lhs; whnf) <;> rfl) rfl (fun b2 => ?_)
  refine OW.box (cs := hc b) rfl rfl rfl (by (conv => lhs; whnf) <;> rfl) rfl (fun b3 => ?_)
  refine OW.alloc rfl rfl rfl tz25 (fun b4 => ?_)
  refine OW.nil ?_
  refine hK1 _ _ ?_
  refine CW.seq_k fun K2 hK2 => ?_
  refine CW.drawT 7 mixed (by kernel_rfl) ?_
  refine QW.q rfl rfl (yq_loadH (v := a) rfl (by (conv => lhs; whnf) <;> rfl) ti25 (List.mem_cons_of_mem _ (List.mem_cons_of_mem _ (List.mem_cons_self ..)))) ?_
  refine QW.q rfl rfl (yq_call rfl rfl (.cons (by (conv => lhs; whnf) <;> rfl) .nil) en114 (fun w hw => refhash_calls _ w)) ?_
  refine QW.q rfl rfl (yq_add_bs (a := [1]) rfl (by (conv => lhs; whnf) <;> rfl) (by (conv => lhs; whnf) <;> rfl) (by simp only [List.length_cons, List.length_nil]; omega)) ?_
  refine QW.q rfl rfl (yq_loadH (v := b) rfl (by (conv => lhs; whnf) <;> rfl) ti25 (List.mem_cons_of_mem _ (List.mem_cons_self ..))) ?_
  refine QW.q rfl rfl (yq_call rfl rfl (.cons (by (conv => lhs; whnf) <;> rfl) .nil) en114 (fun w hw => refhash_calls _ w)) ?_
  refine QW.q rfl rfl (yq_add_bs rfl (by (conv => lhs; whnf) <;> rfl) (by (conv => lhs; whnf) <;> rfl) (by simp only [List.length_append, List.length_cons, List.length_nil]; omega)) ?_
  refine QW.q rfl rfl (yq_call rfl rfl (.cons (by (conv => lhs; whnf) <;> rfl) .nil) en102 (fun w hw => refsum_calls _ w (by simp [hb_length]))) ?_
  refine QW.nil ?_
  refine OW.storeH rfl rfl rfl (by (conv => lhs; whnf) <;> rfl) (by (conv => lhs; whnf) <;> rfl) ti25 .head (hc_length _) ?_
  refine OW.nil ?_
  refine hK2 _ _ ?_
  refine CW.ret ?_
  -- ret (ret)
  rw [node_eq]
  exact fin1 (Or.inr rfl) rfl (rv_hash (by decide) (by (conv => lhs; whnf) <;> rfl) ti25 (List.mem_cons_self ..)) (fun w hw => ⟨rfl, hw.sub (by simp)⟩)

set_option maxRecDepth 100000 in
set_option maxHeartbeats 1000000 in
theorem leaf_calls (s : Bytes) (w : World) (hs : s.length ≤ 4294967295) (hg : GL w) :
    Calls Tryd.prog 36 #[.string (bs s)] w fun e w' => e = .returned (HV (leaf s)) ∧ Cl w [] [] w' := by
  refine calls_of_CW (L := []) Tryd.func36 rfl (Nat.le_of_ble_eq_true rfl) (Cl.refl _) ?_
  refine CW.seq_k fun K1 hK1 => ?_
  refine CW.region ?_
  refine OW.alloc rfl rfl rfl tz25 (fun b2 => ?_)
  refine OW.nil ?_
  refine hK1 _ _ ?_
  refine CW.seq_k fun K2 hK2 => ?_
  refine CW.region ?_
  refine OW.q rfl rfl (yq_move rfl (by (conv => lhs; whnf) <;> rfl)) ?_
  refine OW.q rfl rfl (yq_add_bs (a := [0]) rfl (by (conv => lhs; whnf) <;> rfl) (by (conv => lhs; whnf) <;> rfl) (by simp only [List.length_cons, List.length_nil]; omega)) ?_
  refine OW.q rfl rfl (yq_call rfl rfl (.cons (by (conv => lhs; whnf) <;> rfl) .nil) en100 (fun w hw => sum_calls _ w (by simp; omega) (Cl_gl0 hw hg))) ?_
  refine OW.storeH rfl rfl rfl (by (conv => lhs; whnf) <;> rfl) (by (conv => lhs; whnf) <;> rfl) ti25 .head (hc_length _) ?_
  refine OW.nil ?_
  refine hK2 _ _ ?_
  refine CW.ret ?_
  -- ret (ret)
  rw [leaf_eq]
  exact fin1 (Or.inr rfl) rfl (rv_hash (by decide) (by (conv => lhs; whnf) <;> rfl) ti25 (List.mem_cons_self ..)) (fun w hw => ⟨rfl, hw.sub (by simp)⟩)

set_option maxRecDepth 100000 in
set_option maxHeartbeats 1000000 in
theorem refleaf_calls (s : Bytes) (w : World) (hs : s.length ≤ 4294967295) :
    Calls Tryd.prog 37 #[.string (bs s)] w fun e w' => e = .returned (HV (leaf s)) ∧ Cl w [] [] w' := by
  refine calls_of_CW (L := []) Tryd.func37 rfl (Nat.le_of_ble_eq_true rfl) (Cl.refl _) ?_
  refine CW.seq_k fun K1 hK1 => ?_
  refine CW.region ?_
  refine OW.alloc rfl rfl rfl tz25 (fun b2 => ?_)
  refine OW.nil ?_
  refine hK1 _ _ ?_
  refine CW.seq_k fun K2 hK2 => ?_
  refine CW.region ?_
  refine OW.q rfl rfl (yq_move rfl (by (conv => lhs; whnf) <;> rfl)) ?_
  refine OW.q rfl rfl (yq_add_bs (a := [0]) rfl (by (conv => lhs; whnf) <;> rfl) (by (conv => lhs; whnf) <;> rfl) (by simp only [List.length_cons, List.length_nil]; omega)) ?_
  refine OW.q rfl rfl (yq_call rfl rfl (.cons (by (conv => lhs; whnf) <;> rfl) .nil) en102 (fun w hw => refsum_calls _ w (by simp; omega))) ?_
  refine OW.storeH rfl rfl rfl (by (conv => lhs; whnf) <;> rfl) (by (conv => lhs; whnf) <;> rfl) ti25 .head (hc_length _) ?_
  refine OW.nil ?_
  refine hK2 _ _ ?_
  refine CW.ret ?_
  -- ret (ret)
  rw [leaf_eq]
  exact fin1 (Or.inr rfl) rfl (rv_hash (by decide) (by (conv => lhs; whnf) <;> rfl) ti25 (List.mem_cons_self ..)) (fun w hw => ⟨rfl, hw.sub (by simp)⟩)

set_option maxRecDepth 100000 in
set_option maxHeartbeats 1000000 in
theorem split_calls (n : Int) (w : World) (h1 : -9223372036854775808 ≤ n) (h2 : n ≤ 9223372036854775807) :
    Calls Tryd.prog 28 #[.int .i64 n] w fun e w' => e = .returned (.int .i64 (spI n)) ∧ Cl w [] [] w' := by
  refine calls_of_CW (L := []) Tryd.func28 rfl (Nat.le_of_ble_eq_true rfl) (Cl.refl _) ?_
  refine CW.seq_k fun K1 hK1 => ?_
  refine CW.region ?_
  refine OW.q rfl rfl (yq_assign rfl (by (conv => lhs; whnf) <;> rfl)) ?_
  refine OW.nil ?_
  refine hK1 _ _ ?_
  refine CW.seq_k fun K2 hK2 => ?_
  refine CW.seq_k fun K3 hK3 => ?_
  refine CW.region ?_
  refine OW.q rfl rfl (yq_move rfl (by (conv => lhs; whnf) <;> rfl)) ?_
  refine OW.q rfl rfl (yq_lss rfl (by (conv => lhs; whnf) <;> rfl) (by (conv => lhs; whnf) <;> rfl)) ?_
  refine OW.nil ?_
  refine hK3 _ _ ?_
  refine CW.cond_dec (by (conv => lhs; whnf) <;> rfl) (fun hc0 => ?_) (fun hc0 => ?_)
  · have hz : spI n = 0 := by rw [spI, sp_zero (by omega)]; rfl
    refine CW.seq_k fun K4 hK4 => ?_
    refine CW.region ?_
    refine OW.q rfl rfl (yq_assign rfl (by (conv => lhs; whnf) <;> rfl)) ?_
    refine OW.nil ?_
    refine hK4 _ _ ?_
    refine CW.ret ?_
    refine then_ret ?_
    -- ret (ret)
    exact fin1 (Or.inr rfl) rfl ⟨by decide, by rw [hz]; exact (by (conv => lhs; whnf) <;> rfl)⟩ (fun w hw => ⟨rfl, hw⟩)
  · refine CW.skip ?_
    refine hK2 _ _ ?_
    refine CW.seq_k fun K5 hK5 => ?_
    refine CW.region ?_
    refine OW.q rfl rfl (yq_assign rfl (by (conv => lhs; whnf) <;> rfl)) ?_
    refine OW.nil ?_
    refine hK5 _ _ ?_
    refine CW.seq_k fun K6 hK6 => ?_
    refine CW.block ?_
    refine CW.loop (σ := Nat) (fun j ρ L => Has ρ [(0, .int .i64 n), (3, .int .i64 ((2 ^ j : Nat) : Int))] ∧ ((2 ^ j : Nat) : Int) < n ∧ j ≤ 62 ∧ L = []) (fun j => 62 - j) (0) ?_ ?_
    · exact ⟨Has.mk ⟨(by (conv => lhs; whnf) <;> rfl), (by (conv => lhs; whnf) <;> rfl), trivial⟩, by show ((1 : Nat) : Int) < n; omega, by omega, rfl⟩
    · rintro j _ _ ⟨⟨ρ', rfl⟩, hlt, hj, rfl⟩
      have hpj : 0 < 2 ^ j := Nat.two_pow_pos j
      have hp2 : 2 ^ (j + 1) = 2 ^ j * 2 := Nat.pow_succ ..
      refine CW.seq_k fun K7 hK7 => ?_
      refine CW.seq_k fun K8 hK8 => ?_
      refine CW.region ?_
      refine OW.q rfl rfl (yq_move rfl (by (conv => lhs; whnf) <;> rfl)) ?_
      refine OW.q rfl rfl (yq_move rfl (by (conv => lhs; whnf) <;> rfl)) ?_
      refine OW.q rfl rfl (yq_move rfl (by (conv => lhs; whnf) <;> rfl)) ?_
      refine OW.q rfl rfl (yq_sub rfl (by (conv => lhs; whnf) <;> rfl) (by (conv => lhs; whnf) <;> rfl) (by omega)) ?_
      refine OW.q rfl rfl (yq_lss rfl (by (conv => lhs; whnf) <;> rfl) (by (conv => lhs; whnf) <;> rfl)) ?_
      refine OW.nil ?_
      refine hK8 _ _ ?_
      refine CW.cond_dec (by (conv => lhs; whnf) <;> rfl) (fun hc2 => ?_) (fun hc2 => ?_)
      · have hj2 : j < 62 := by
          rcases Nat.lt_or_ge j 62 with h | h
          · exact h
          · have hj62 : j = 62 := by omega
            subst hj62
            have : (2 : Nat) ^ 62 = 4611686018427387904 := by decide
            omega
        refine CW.skip ?_
        refine hK7 _ _ ?_
        refine CW.block ?_
        refine CW.region ?_
        refine OW.q rfl rfl (yq_move rfl (by (conv => lhs; whnf) <;> rfl)) ?_
        refine OW.q rfl rfl (yq_mul_e (r := ((2 ^ (j + 1) : Nat) : Int)) rfl (by (conv => lhs; whnf) <;> rfl) (by (conv => lhs; whnf) <;> rfl) (by rw [wrap64_in (by omega)]; omega)) ?_
        refine OW.q rfl rfl (yq_assign rfl (by (conv => lhs; whnf) <;> rfl)) ?_
        refine OW.nil ?_
        exact ⟨j + 1, ⟨Has.mk ⟨(by (conv => lhs; whnf) <;> rfl), (by (conv => lhs; whnf) <;> rfl), trivial⟩, by omega, by omega, rfl⟩, by omega⟩
      · have hz : spI n = ((2 ^ j : Nat) : Int) := by rw [spI, sp_of (n := n.toNat) (j := j) (by omega) (by omega)]
        refine CW.exit ?_
        refine then_exit ?_
        refine then_exit ?_
        refine blockQ_hit ?_
        refine hK6 _ _ ?_
        refine CW.seq_k fun K9 hK9 => ?_
        refine CW.region ?_
        refine OW.q rfl rfl (yq_move rfl (by (conv => lhs; whnf) <;> rfl)) ?_
        refine OW.q rfl rfl (yq_assign rfl (by (conv => lhs; whnf) <;> rfl)) ?_
        refine OW.nil ?_
        refine hK9 _ _ ?_
        refine CW.ret ?_
        -- ret (ret)
        exact fin1 (Or.inr rfl) rfl ⟨by decide, by rw [hz]; exact (by (conv => lhs; whnf) <;> rfl)⟩ (fun w hw => ⟨rfl, hw⟩)

theorem split_c (n r : Int) (w : World) (hr : spI n = r) (h1 : -9223372036854775808 ≤ n) (h2 : n ≤ 9223372036854775807) : Calls Tryd.prog 28 #[.int .i64 n] w fun e w' => e = .returned (.int .i64 r) ∧ Cl w [] [] w' := hr ▸ split_calls n w h1 h2
theorem spI_nat (n : Nat) : spI (n : Int) = (sp n : Int) := rfl

end Go.Proofs.YtahdekllphehkaaDoor
