/- Paths by the document; no statement of the seat is proved here. -/
import Derived.Test.YtahdekllphehkaaDoorP0
import Derived.Test.YtahdekllphehkaaDoorL13
set_option linter.unusedVariables false
set_option linter.unusedSimpArgs false
namespace Go.Proofs.YtahdekllphehkaaDoor
open Go.WL Go.Spec

/-- What the document's function of a path tells, of lists shorter than m. -/
def RPathP (m : Nat) : Prop := ∀ (l : List Hash) (v : Value) (i : Int) (w : World), l.length < m → l.length ≤ 4294967296 → HsAt w v l → -9223372036854775808 ≤ i → i ≤ 9223372036854775807 →
    Calls Tryd.prog 42 #[v, .int .i64 i] w fun e w' => ∃ v' L1, e = .returned v' ∧ Cl w [] L1 w' ∧ ∃ u, v' = .tuple #[u, .int .i64 (pathE l i)] ∧ OutHs u L1 (pathR l i)

set_option maxRecDepth 100000 in
set_option maxHeartbeats 1000000 in
theorem rpath_step (m : Nat) (ih : RPathP m) : RPathP (m + 1) := by
  intro l v i w hlm hll hs hi1 hi2
  have hs0 := hs
  obtain ⟨a0, cap0, rfl⟩ := hs0.len
  refine calls_of_CW (L := []) Tryd.func42 rfl (Nat.le_of_ble_eq_true rfl) (Cl.refl _) ?_
  refine CW.seq_k fun K1 hK1 => ?_
  refine CW.region ?_
  refine OW.q rfl rfl (yq_assign rfl (by (conv => lhs; whnf) <;> rfl)) ?_
  refine OW.q rfl rfl (yq_assign rfl (by (conv => lhs; whnf) <;> rfl)) ?_
  refine OW.nil ?_
  refine hK1 _ _ ?_
  refine CW.seq_k fun K2 hK2 => ?_
  refine CW.seq_k fun K3 hK3 => ?_
  refine CW.region ?_
  refine OW.q rfl rfl (yq_move rfl (by (conv => lhs; whnf) <;> rfl)) ?_
  refine OW.qb rfl rfl (yq_lss rfl (by (conv => lhs; whnf) <;> rfl) (by (conv => lhs; whnf) <;> rfl)) (fun b12 hb12 => ?_)
  refine OW.q rfl rfl (yq_move rfl (by (conv => lhs; whnf) <;> rfl)) ?_
  apply OW.segOr 5 [14, 15, 16, 17] 18 hb12
  · intro hb12e
    refine QW.q (by subst hb12e; rfl) rfl (yq_move rfl (by (conv => lhs; whnf) <;> rfl)) ?_
    refine QW.q (by subst hb12e; rfl) rfl (yq_move rfl (by (conv => lhs; whnf) <;> rfl)) ?_
    refine QW.q (by subst hb12e; rfl) rfl (yq_len_slice rfl ts22 (by (conv => lhs; whnf) <;> rfl)) ?_
    refine QW.qb (by subst hb12e; rfl) rfl (yq_geq rfl (by (conv => lhs; whnf) <;> rfl) (by (conv => lhs; whnf) <;> rfl)) (fun b17 hb17 => ?_)
    refine QW.q rfl rfl (yq_pick rfl (by (conv => lhs; whnf) <;> rfl) (by subst hb12e; ((conv => lhs; whnf) <;> rfl))) ?_
    exact QW.nil (SegM.mk (any_c (any_c (any_c (any_c any_n)))) (or_run hb12 hb12e hb17))
  · intro hb12e
    refine QW.skip (by subst hb12e; rfl) rfl ?_
    refine QW.skip (by subst hb12e; rfl) rfl ?_
    refine QW.skip (by subst hb12e; rfl) rfl ?_
    refine QW.skip (by subst hb12e; rfl) rfl ?_
    refine QW.q rfl rfl (yq_pick rfl (by (conv => lhs; whnf) <;> rfl) (by subst hb12e; ((conv => lhs; whnf) <;> rfl))) ?_
    exact QW.nil (SegM.mk (any_c (any_c (any_c (any_c any_n)))) (or_skip hb12 hb12e))
  · intro ρ18 b18 hA hb18
    obtain ⟨x14, x15, x16, x17, rfl⟩ := hA
    refine OW.nil ?_
    refine hK3 _ _ ?_
    refine CW.condq (by (conv => lhs; whnf) <;> rfl) hb18 (fun hc0 => ?_) (fun hc0 => ?_)
    · refine CW.seq_k fun K4 hK4 => ?_
      refine CW.region ?_
      refine OW.q rfl rfl (yq_assign rfl (by (conv => lhs; whnf) <;> rfl)) ?_
      refine OW.q rfl rfl (yq_assign rfl (by (conv => lhs; whnf) <;> rfl)) ?_
      refine OW.nil ?_
      refine hK4 _ _ ?_
      refine CW.ret ?_
      refine then_ret ?_
      -- ret (ret)
      refine fin2 (Or.inr rfl) rfl ⟨by decide, (by (conv => lhs; whnf) <;> rfl)⟩ ⟨by decide, (by (conv => lhs; whnf) <;> rfl)⟩ (fun w hw => ?_)
      refine ⟨_, [.row none 0 0 25 32 []], rfl, nilrow_cl hw 25 32, ?_⟩
      rw [pathE_bad hc0, pathR_bad hc0]
      exact ⟨_, rfl, none, 0, rfl, rfl⟩
    · obtain ⟨k, rfl⟩ : ∃ k : Nat, i = (k : Int) := ⟨i.toNat, by omega⟩
      have hkl : k < l.length := by omega
      obtain ⟨b, off, cp, hv, hcp⟩ := hs.place (fun e => by subst e; simp at hkl)
      rw [Value.slice.injEq] at hv
      obtain ⟨rfl, _, rfl⟩ := hv
      refine CW.skip ?_
      refine hK2 _ _ ?_
      refine CW.seq_k fun K5 hK5 => ?_
      refine CW.seq_k fun K6 hK6 => ?_
      refine CW.region ?_
      refine OW.q rfl rfl (yq_move rfl (by (conv => lhs; whnf) <;> rfl)) ?_
      refine OW.q rfl rfl (yq_len_slice rfl ts22 (by (conv => lhs; whnf) <;> rfl)) ?_
      refine OW.q rfl rfl (yq_eql rfl (by (conv => lhs; whnf) <;> rfl) (by (conv => lhs; whnf) <;> rfl)) ?_
      refine OW.nil ?_
      refine hK6 _ _ ?_
      refine CW.cond_dec (by (conv => lhs; whnf) <;> rfl) (fun hc1 => ?_) (fun hc1 => ?_)
      · refine CW.seq_k fun K7 hK7 => ?_
        refine CW.region ?_
        refine OW.q rfl rfl (yq_assign rfl (by (conv => lhs; whnf) <;> rfl)) ?_
        refine OW.q rfl rfl (yq_assign rfl (by (conv => lhs; whnf) <;> rfl)) ?_
        refine OW.nil ?_
        refine hK7 _ _ ?_
        refine CW.ret ?_
        refine then_ret ?_
        -- ret (ret)
        refine fin2 (Or.inr rfl) rfl ⟨by decide, (by (conv => lhs; whnf) <;> rfl)⟩ ⟨by decide, (by (conv => lhs; whnf) <;> rfl)⟩ (fun w hw => ?_)
        refine ⟨_, [.row none 0 0 25 32 []], rfl, nilrow_cl hw 25 32, ?_⟩
        rw [pathE_ok hc0, pathR_ok hc0, pathL_small _ (by omega)]
        exact ⟨_, rfl, none, 0, rfl, rfl⟩
      · have hq2 : 2 ≤ l.length := by omega
        have hk1 := sp_pos hq2
        have hk2 := sp_lt hq2
        obtain ⟨q, hq⟩ : ∃ q, q = sp l.length := ⟨_, rfl⟩
        rw [← hq] at hk1 hk2
        have hsp : spI (l.length : Int) = (q : Int) := by rw [spI_nat, hq]
        have hT := sliceT hs q (by omega)
        have hD := sliceD hs q (by omega)
        have hlT : (l.take q).length = q := by rw [List.length_take]; omega
        have hlD : (l.drop q).length = l.length - q := by rw [List.length_drop]
        refine CW.skip ?_
        refine hK5 _ _ ?_
        refine CW.seq_k fun K8 hK8 => ?_
        refine CW.region ?_
        refine OW.q rfl rfl (yq_move rfl (by (conv => lhs; whnf) <;> rfl)) ?_
        refine OW.q rfl rfl (yq_len_slice rfl ts22 (by (conv => lhs; whnf) <;> rfl)) ?_
        refine OW.q rfl rfl (yq_call rfl rfl (.cons (by (conv => lhs; whnf) <;> rfl) .nil) en39 (fun w hw => rsplit_c _ _ w hsp (by omega) (by omega))) ?_
        refine OW.q rfl rfl (yq_assign rfl (by (conv => lhs; whnf) <;> rfl)) ?_
        refine OW.nil ?_
        refine hK8 _ _ ?_
        refine CW.seq_k fun K9 hK9 => ?_
        refine CW.seq_k fun K10 hK10 => ?_
        refine CW.region ?_
        refine OW.q rfl rfl (yq_move rfl (by (conv => lhs; whnf) <;> rfl)) ?_
        refine OW.q rfl rfl (yq_move rfl (by (conv => lhs; whnf) <;> rfl)) ?_
        refine OW.q rfl rfl (yq_lss rfl (by (conv => lhs; whnf) <;> rfl) (by (conv => lhs; whnf) <;> rfl)) ?_
        refine OW.nil ?_
        refine hK10 _ _ ?_
        refine CW.cond_dec (by (conv => lhs; whnf) <;> rfl) (fun hc2 => ?_) (fun hc2 => ?_)
        · have hlt : k < q := by omega
          have hpr : pathR (l.take q) (k : Int) = pathL (l.take q) k := pathR_ok (by rw [hlT]; omega)
          have hpn := pathR_length (l.take q) (k : Int)
          rw [hlT] at hpn
          refine CW.seq_k fun K11 hK11 => ?_
          refine CW.region ?_
          refine OW.q rfl rfl (yq_move rfl (by (conv => lhs; whnf) <;> rfl)) ?_
          refine OW.q rfl rfl (yq_move rfl (by (conv => lhs; whnf) <;> rfl)) ?_
          refine OW.q rfl rfl (yq_slice_slice (l := 0) (h := q) rfl (by (conv => lhs; whnf) <;> rfl) ts22 ti25 rfl ⟨_, _, (by (conv => lhs; whnf) <;> rfl), by omega, by omega⟩ (by omega) (by omega)) ?_
          refine OW.q rfl rfl (yq_move rfl (by (conv => lhs; whnf) <;> rfl)) ?_
          refine OW.calln rfl rfl rfl (by (conv => lhs; whnf) <;> rfl) (.cons (by (conv => lhs; whnf) <;> rfl) (.cons (by (conv => lhs; whnf) <;> rfl) .nil)) en42 (fun w hw => ih (l.take q) _ (k : Int) w (by omega) (by omega) (hT.mono hw) (by omega) (by omega)) ?_
          rintro _ _ ⟨_, rfl, a, cap, rfl, rfl⟩
          refine OW.q rfl rfl (yq_move rfl (by (conv => lhs; whnf) <;> rfl)) ?_
          refine OW.q rfl rfl (yq_extract rfl (by (conv => lhs; whnf) <;> rfl) rfl) ?_
          refine OW.q rfl rfl (yq_extract rfl (by (conv => lhs; whnf) <;> rfl) rfl) ?_
          refine OW.q rfl rfl (yq_assign rfl (by (conv => lhs; whnf) <;> rfl)) ?_
          refine OW.q rfl rfl (yq_assign rfl (by (conv => lhs; whnf) <;> rfl)) ?_
          refine OW.nil ?_
          refine hK11 _ _ ?_
          refine CW.seq_k fun K12 hK12 => ?_
          refine CW.region ?_
          refine OW.q rfl rfl (yq_move rfl (by (conv => lhs; whnf) <;> rfl)) ?_
          refine OW.q rfl rfl (yq_move rfl (by (conv => lhs; whnf) <;> rfl)) ?_
          refine OW.q rfl rfl (yq_move rfl (by (conv => lhs; whnf) <;> rfl)) ?_
          refine OW.q rfl rfl (yq_slice_slice (l := q) (h := l.length) rfl (by (conv => lhs; whnf) <;> rfl) ts22 ti25 ⟨_, _, (by (conv => lhs; whnf) <;> rfl), by omega, by omega⟩ rfl (by omega) (by omega)) ?_
          refine OW.q rfl rfl (yq_call rfl rfl (.cons (by (conv => lhs; whnf) <;> rfl) .nil) en25 (fun w hw => rroot_calls (l.drop q) _ w (by omega) (hD.mono hw))) ?_
          refine OW.slicelit (vs := [HV (rootL (l.drop q))]) rfl rfl rfl rfl ts22 ti25 tz25 (by decide) rfl (by decide) (by simp [HV_cells]) (by decide) (cs := hc (rootL (l.drop q))) (by simp [HV_cells]) (fun bl => ?_)
          refine OW.append (news := hc (rootL (l.drop q))) rfl rfl rfl (by (conv => lhs; whnf) <;> rfl) (by (conv => lhs; whnf) <;> rfl) ts22 ti25 tz25 (.tail .head) (blk_cells (List.mem_cons_self ..)) (by rw [hc_length]) (hc_one _) (hc_length _) (by decide) (by simp only [maxLen]; omega) (by omega) (fun a' cap' => ?_)
          refine OW.drop ((List.sublist_cons_self _ _).cons_cons _) ?_
          refine OW.q rfl rfl (yq_assign rfl (by (conv => lhs; whnf) <;> rfl)) ?_
          refine OW.q rfl rfl (yq_assign rfl (by (conv => lhs; whnf) <;> rfl)) ?_
          refine OW.nil ?_
          refine hK12 _ _ ?_
          refine CW.ret ?_
          refine then_ret ?_
          -- ret (ret)
          refine fin2 (Or.inr rfl) rfl ⟨by decide, (by (conv => lhs; whnf) <;> rfl)⟩ ⟨by decide, (by (conv => lhs; whnf) <;> rfl)⟩ (fun w hw => ?_)
          refine ⟨_, _, rfl, hw, ?_⟩
          rw [pathE_ok hc0, pathR_ok hc0, pathL_left hq2 (by rw [← hq]; exact hlt), ← hq]
          refine ⟨_, rfl, a', cap', ?_, ?_⟩
          · rw [List.length_append, hpr]; rfl
          · rw [flat_snoc, List.length_append, hpr]; rfl
        · have hlt : ¬ k < q := by omega
          have hiq : (k : Int) - (q : Int) = ((k - q : Nat) : Int) := by omega
          have hpr : pathR (l.drop q) ((k - q : Nat) : Int) = pathL (l.drop q) (k - q) := pathR_ok (by rw [hlD]; omega)
          have hpn := pathR_length (l.drop q) ((k - q : Nat) : Int)
          rw [hlD] at hpn
          refine CW.skip ?_
          refine hK9 _ _ ?_
          refine CW.seq_k fun K13 hK13 => ?_
          refine CW.region ?_
          refine OW.q rfl rfl (yq_move rfl (by (conv => lhs; whnf) <;> rfl)) ?_
          refine OW.q rfl rfl (yq_move rfl (by (conv => lhs; whnf) <;> rfl)) ?_
          refine OW.q rfl rfl (yq_slice_slice (l := q) (h := l.length) rfl (by (conv => lhs; whnf) <;> rfl) ts22 ti25 ⟨_, _, (by (conv => lhs; whnf) <;> rfl), by omega, by omega⟩ rfl (by omega) (by omega)) ?_
          refine OW.q rfl rfl (yq_move rfl (by (conv => lhs; whnf) <;> rfl)) ?_
          refine OW.q rfl rfl (yq_move rfl (by (conv => lhs; whnf) <;> rfl)) ?_
          refine OW.q rfl rfl (yq_sub_e (r := ((k - q : Nat) : Int)) rfl (by (conv => lhs; whnf) <;> rfl) (by (conv => lhs; whnf) <;> rfl) (by rw [hiq, wrap64_in (by omega)])) ?_
          refine OW.calln rfl rfl rfl (by (conv => lhs; whnf) <;> rfl) (.cons (by (conv => lhs; whnf) <;> rfl) (.cons (by (conv => lhs; whnf) <;> rfl) .nil)) en42 (fun w hw => ih (l.drop q) _ ((k - q : Nat) : Int) w (by omega) (by omega) (hD.mono hw) (by omega) (by omega)) ?_
          rintro _ _ ⟨_, rfl, a, cap, rfl, rfl⟩
          refine OW.q rfl rfl (yq_move rfl (by (conv => lhs; whnf) <;> rfl)) ?_
          refine OW.q rfl rfl (yq_extract rfl (by (conv => lhs; whnf) <;> rfl) rfl) ?_
          refine OW.q rfl rfl (yq_extract rfl (by (conv => lhs; whnf) <;> rfl) rfl) ?_
          refine OW.q rfl rfl (yq_assign rfl (by (conv => lhs; whnf) <;> rfl)) ?_
          refine OW.q rfl rfl (yq_assign rfl (by (conv => lhs; whnf) <;> rfl)) ?_
          refine OW.nil ?_
          refine hK13 _ _ ?_
          refine CW.seq_k fun K14 hK14 => ?_
          refine CW.region ?_
          refine OW.q rfl rfl (yq_move rfl (by (conv => lhs; whnf) <;> rfl)) ?_
          refine OW.q rfl rfl (yq_move rfl (by (conv => lhs; whnf) <;> rfl)) ?_
          refine OW.q rfl rfl (yq_move rfl (by (conv => lhs; whnf) <;> rfl)) ?_
          refine OW.q rfl rfl (yq_slice_slice (l := 0) (h := q) rfl (by (conv => lhs; whnf) <;> rfl) ts22 ti25 rfl ⟨_, _, (by (conv => lhs; whnf) <;> rfl), by omega, by omega⟩ (by omega) (by omega)) ?_
          refine OW.q rfl rfl (yq_call rfl rfl (.cons (by (conv => lhs; whnf) <;> rfl) .nil) en25 (fun w hw => rroot_calls (l.take q) _ w (by omega) (hT.mono hw))) ?_
          refine OW.slicelit (vs := [HV (rootL (l.take q))]) rfl rfl rfl rfl ts22 ti25 tz25 (by decide) rfl (by decide) (by simp [HV_cells]) (by decide) (cs := hc (rootL (l.take q))) (by simp [HV_cells]) (fun bl => ?_)
          refine OW.append (news := hc (rootL (l.take q))) rfl rfl rfl (by (conv => lhs; whnf) <;> rfl) (by (conv => lhs; whnf) <;> rfl) ts22 ti25 tz25 (.tail .head) (blk_cells (List.mem_cons_self ..)) (by rw [hc_length]) (hc_one _) (hc_length _) (by decide) (by simp only [maxLen]; omega) (by omega) (fun a' cap' => ?_)
          refine OW.drop ((List.sublist_cons_self _ _).cons_cons _) ?_
          refine OW.q rfl rfl (yq_assign rfl (by (conv => lhs; whnf) <;> rfl)) ?_
          refine OW.q rfl rfl (yq_assign rfl (by (conv => lhs; whnf) <;> rfl)) ?_
          refine OW.nil ?_
          refine hK14 _ _ ?_
          refine CW.ret ?_
          -- ret (ret)
          refine fin2 (Or.inr rfl) rfl ⟨by decide, (by (conv => lhs; whnf) <;> rfl)⟩ ⟨by decide, (by (conv => lhs; whnf) <;> rfl)⟩ (fun w hw => ?_)
          refine ⟨_, _, rfl, hw, ?_⟩
          rw [pathE_ok hc0, pathR_ok hc0, pathL_right hq2 (by rw [← hq]; exact hlt), ← hq]
          refine ⟨_, rfl, a', cap', ?_, ?_⟩
          · rw [List.length_append, hpr]; rfl
          · rw [flat_snoc, List.length_append, hpr]; rfl

theorem rpath_calls (l : List Hash) (v : Value) (i : Int) (w : World) (hll : l.length ≤ 4294967296) (hs : HsAt w v l) (hi1 : -9223372036854775808 ≤ i) (hi2 : i ≤ 9223372036854775807) :
    Calls Tryd.prog 42 #[v, .int .i64 i] w fun e w' => ∃ v' L1, e = .returned v' ∧ Cl w [] L1 w' ∧ ∃ u, v' = .tuple #[u, .int .i64 (pathE l i)] ∧ OutHs u L1 (pathR l i) := by
  have : ∀ m, RPathP m := by
    intro m
    induction m with
    | zero => intro l v i w h; omega
    | succ m ih => exact rpath_step m ih
  exact this (l.length + 1) l v i w (by omega) hll hs hi1 hi2
/-- What the document's climbing answers; the path from its end. -/
def comeF (leaf : Hash) : Nat → Nat → List Hash → Hash × Bool
  | _, n, [] => (leaf, decide (n = 1))
  | i, n, x :: r => if n = 1 then (leaf, false) else if i < sp n then (node (comeF leaf i (sp n) r).1 x, (comeF leaf i (sp n) r).2) else (node x (comeF leaf (i - sp n) (n - sp n) r).1, (comeF leaf (i - sp n) (n - sp n) r).2)
theorem comeF_nil (leaf : Hash) (i n : Nat) : comeF leaf i n [] = (leaf, decide (n = 1)) := by rw [comeF]
theorem comeF_one (leaf : Hash) (i : Nat) (x : Hash) (r : List Hash) : comeF leaf i 1 (x :: r) = (leaf, false) := by rw [comeF, if_pos rfl]
theorem comeF_left {leaf : Hash} {i n : Nat} {x : Hash} {r : List Hash} (h : n ≠ 1) (hi : i < sp n) : comeF leaf i n (x :: r) = (node (comeF leaf i (sp n) r).1 x, (comeF leaf i (sp n) r).2) := by rw [comeF, if_neg h, if_pos hi]
theorem comeF_right {leaf : Hash} {i n : Nat} {x : Hash} {r : List Hash} (h : n ≠ 1) (hi : ¬ i < sp n) : comeF leaf i n (x :: r) = (node x (comeF leaf (i - sp n) (n - sp n) r).1, (comeF leaf (i - sp n) (n - sp n) r).2) := by rw [comeF, if_neg h, if_neg hi]
theorem comeR_F (leaf : Hash) (p : List Hash) : ∀ i n, comeR leaf i n p = if (comeF leaf i n p).2 = true then some (comeF leaf i n p).1 else none := by
  induction p with
  | nil =>
    intro i n
    rw [comeF_nil, comeR]
    by_cases h : n = 1 <;> simp [h]
  | cons x r ih =>
    intro i n
    by_cases h : n = 1
    · subst h; rw [comeF_one, comeR]; simp
    · rw [comeR, if_neg h]
      by_cases hi : i < sp n
      · rw [comeF_left h hi, if_pos hi, ih]
        by_cases hb : (comeF leaf i (sp n) r).2 = true <;> simp [hb]
      · rw [comeF_right h hi, if_neg hi, ih]
        by_cases hb : (comeF leaf (i - sp n) (n - sp n) r).2 = true <;> simp [hb]
attribute [irreducible] comeF
def ComeP (m : Nat) : Prop := ∀ (leaf : Hash) (i n : Nat) (p : List Hash) (v : Value) (w : World), p.length < m → p.length ≤ 4294967296 → 1 ≤ n → n ≤ 4294967296 → i < n → HsAt w v p →
    Calls Tryd.prog 120 #[HV leaf, .int .i64 (i : Int), .int .i64 (n : Int), v] w fun e w' => e = .returned (.tuple #[HV (comeF leaf i n p.reverse).1, .bool (comeF leaf i n p.reverse).2]) ∧ Cl w [] [] w'

set_option maxRecDepth 100000 in
set_option maxHeartbeats 1000000 in
theorem come_step (m : Nat) (ih : ComeP m) : ComeP (m + 1) := by
  intro leaf i n p v w hpm hpl hn1 hnl hin hs
  have hs0 := hs
  obtain ⟨a0, cap0, rfl⟩ := hs0.len
  refine calls_of_CW (L := []) Tryd.func120 rfl (Nat.le_of_ble_eq_true rfl) (Cl.refl _) ?_
  refine CW.seq_k fun K1 hK1 => ?_
  refine CW.region ?_
  refine OW.box rfl rfl rfl (by (conv => lhs; whnf) <;> rfl) (by rfl) (fun b4 => ?_)
  refine OW.alloc rfl rfl rfl tz25 (fun b8 => ?_)
  refine OW.q rfl rfl (yq_assign rfl (by (conv => lhs; whnf) <;> rfl)) ?_
  refine OW.nil ?_
  refine hK1 _ _ ?_
  refine CW.seq_k fun K2 hK2 => ?_
  refine CW.seq_k fun K3 hK3 => ?_
  refine CW.region ?_
  refine OW.q rfl rfl (yq_move rfl (by (conv => lhs; whnf) <;> rfl)) ?_
  refine OW.q rfl rfl (yq_eql rfl (by (conv => lhs; whnf) <;> rfl) (by (conv => lhs; whnf) <;> rfl)) ?_
  refine OW.nil ?_
  refine hK3 _ _ ?_
  refine CW.cond_dec (by (conv => lhs; whnf) <;> rfl) (fun hc0 => ?_) (fun hc0 => ?_)
  · refine CW.seq_k fun K4 hK4 => ?_
    refine CW.region ?_
    refine OW.q rfl rfl (yq_loadH rfl (by (conv => lhs; whnf) <;> rfl) ti25 (by repeat' first | exact List.mem_cons_self .. | apply List.mem_cons_of_mem)) ?_
    refine OW.q rfl rfl (yq_move rfl (by (conv => lhs; whnf) <;> rfl)) ?_
    refine OW.q rfl rfl (yq_len_slice rfl ts22 (by (conv => lhs; whnf) <;> rfl)) ?_
    refine OW.q rfl rfl (yq_eql rfl (by (conv => lhs; whnf) <;> rfl) (by (conv => lhs; whnf) <;> rfl)) ?_
    refine OW.storeH rfl rfl rfl (by (conv => lhs; whnf) <;> rfl) (by (conv => lhs; whnf) <;> rfl) ti25 (by repeat' first | exact Put.head | apply Put.tail) (hc_length _) ?_
    refine OW.q rfl rfl (yq_assign rfl (by (conv => lhs; whnf) <;> rfl)) ?_
    refine OW.nil ?_
    refine hK4 _ _ ?_
    refine CW.ret ?_
    refine then_ret ?_
    -- ret (ret)
    have hn : n = 1 := by omega
    subst hn
    have hF : comeF leaf i 1 p.reverse = (leaf, decide ((p.length : Int) = 0)) := by
      cases hp : p.reverse with
      | nil =>
        have : p = [] := by simpa using hp
        subst this; rw [comeF_nil]; rfl
      | cons x r =>
        have : p.length ≠ 0 := by
          intro h0
          rw [List.eq_nil_of_length_eq_zero h0] at hp
          cases hp
        rw [comeF_one, decide_eq_false (by omega)]
    rw [hF]
    exact fin2 (Or.inr rfl) rfl (rv_hash (by decide) (by (conv => lhs; whnf) <;> rfl) ti25 (List.mem_cons_self ..)) ⟨by decide, (by (conv => lhs; whnf) <;> rfl)⟩ (fun w hw => ⟨rfl, hw.sub (by simp)⟩)
  · refine CW.skip ?_
    refine hK2 _ _ ?_
    refine CW.seq_k fun K5 hK5 => ?_
    refine CW.seq_k fun K6 hK6 => ?_
    refine CW.region ?_
    refine OW.q rfl rfl (yq_move rfl (by (conv => lhs; whnf) <;> rfl)) ?_
    refine OW.q rfl rfl (yq_len_slice rfl ts22 (by (conv => lhs; whnf) <;> rfl)) ?_
    refine OW.q rfl rfl (yq_eql rfl (by (conv => lhs; whnf) <;> rfl) (by (conv => lhs; whnf) <;> rfl)) ?_
    refine OW.nil ?_
    refine hK6 _ _ ?_
    refine CW.cond_dec (by (conv => lhs; whnf) <;> rfl) (fun hc1 => ?_) (fun hc1 => ?_)
    · refine CW.seq_k fun K7 hK7 => ?_
      refine CW.region ?_
      refine OW.q rfl rfl (yq_loadH rfl (by (conv => lhs; whnf) <;> rfl) ti25 (by repeat' first | exact List.mem_cons_self .. | apply List.mem_cons_of_mem)) ?_
      refine OW.storeH rfl rfl rfl (by (conv => lhs; whnf) <;> rfl) (by (conv => lhs; whnf) <;> rfl) ti25 (by repeat' first | exact Put.head | apply Put.tail) (hc_length _) ?_
      refine OW.q rfl rfl (yq_assign rfl (by (conv => lhs; whnf) <;> rfl)) ?_
      refine OW.nil ?_
      refine hK7 _ _ ?_
      refine CW.ret ?_
      refine then_ret ?_
      -- ret (ret)
      have hp0 : p = [] := List.eq_nil_of_length_eq_zero (by omega)
      subst hp0
      rw [List.reverse_nil, comeF_nil, decide_eq_false (show ¬ n = 1 by omega)]
      exact fin2 (Or.inr rfl) rfl (rv_hash (by decide) (by (conv => lhs; whnf) <;> rfl) ti25 (List.mem_cons_self ..)) ⟨by decide, (by (conv => lhs; whnf) <;> rfl)⟩ (fun w hw => ⟨rfl, hw.sub (by simp)⟩)
    · obtain ⟨r, x, rfl⟩ : ∃ r x, p = r ++ [x] := by
        rcases List.eq_nil_or_concat p with h | ⟨r, x, h⟩
        · subst h; exact absurd rfl hc1
        · exact ⟨r, x, by simpa using h⟩
      have hrv : (r ++ [x]).reverse = x :: r.reverse := by simp
      have hpl1 : (r ++ [x]).length = r.length + 1 := by simp
      obtain ⟨b, off, cp, hv, hcp⟩ := hs.place (by simp)
      rw [Value.slice.injEq] at hv
      obtain ⟨rfl, _, rfl⟩ := hv
      have hsr := sliceT hs r.length (by omega)
      rw [List.take_left' rfl] at hsr
      have hq2 : 2 ≤ n := by omega
      have hk1 := sp_pos hq2
      have hk2 := sp_lt hq2
      obtain ⟨q, hq⟩ : ∃ q, q = sp n := ⟨_, rfl⟩
      rw [← hq] at hk1 hk2
      have hsp : spI (n : Int) = (q : Int) := by rw [spI_nat, hq]
      have hl1 : ((r ++ [x]).length : Int) - 1 = (r.length : Int) := by omega
      refine CW.skip ?_
      refine hK5 _ _ ?_
      refine CW.cutR (fun ρ L => ∃ b4 b8 b11, Has ρ [(1, .int .i64 (i : Int)), (2, .int .i64 (n : Int)), (3, .slice (some ⟨b, off, none⟩) (r ++ [x]).length cap0), (4, .pointer (some ⟨b4, 0, none⟩)), (8, .pointer (some ⟨b8, 0, none⟩)), (10, .int .i64 (q : Int)), (11, .pointer (some ⟨b11, 0, none⟩))] ∧ L = [.blk b11 (hc x) 25 (0, 0), .blk b8 (hc zeroHash) 25 (0, 0), .blk b4 (hc leaf) 25 (0, 0)]) ?_ ?_
      · refine CW.heldL mixed ?_
        refine HW.take 0 rfl (by kernel_rfl) (by kernel_rfl) (by kernel_rfl) rfl rfl (by repeat' first | exact List.Sublist.refl _ | exact List.nil_sublist _ | apply List.Sublist.cons) (yv_of_yq rfl (yq_move rfl (by (conv => lhs; whnf) <;> rfl))) ?_
        refine HW.take 2 rfl (by kernel_rfl) (by kernel_rfl) (by kernel_rfl) rfl rfl (by repeat' first | exact List.Sublist.refl _ | exact List.nil_sublist _ | apply List.Sublist.cons) (yv_of_yq rfl (yq_move rfl (by (conv => lhs; whnf) <;> rfl))) ?_
        refine HW.take 3 rfl (by kernel_rfl) (by kernel_rfl) (by kernel_rfl) rfl rfl (by repeat' first | exact List.Sublist.refl _ | exact List.nil_sublist _ | apply List.Sublist.cons) (yv_of_yq rfl (yq_move rfl (by (conv => lhs; whnf) <;> rfl))) ?_
        refine HW.take 4 rfl (by kernel_rfl) (by kernel_rfl) (by kernel_rfl) rfl rfl (by repeat' first | exact List.Sublist.refl _ | exact List.nil_sublist _ | apply List.Sublist.cons) (yv_len_slice rfl ts22 (by (conv => lhs; whnf) <;> rfl)) ?_
        refine HW.take 5 rfl (by kernel_rfl) (by kernel_rfl) (by kernel_rfl) rfl rfl (by repeat' first | exact List.Sublist.refl _ | exact List.nil_sublist _ | apply List.Sublist.cons) (yv_of_yq rfl (yq_sub_e (r := (r.length : Int)) rfl (by (conv => lhs; whnf) <;> rfl) (by (conv => lhs; whnf) <;> rfl) (by rw [hl1, wrap64_in (by omega)]))) ?_
        refine HW.take 6 rfl (by kernel_rfl) (by kernel_rfl) (by kernel_rfl) rfl rfl (by repeat' first | exact List.Sublist.refl _ | exact List.nil_sublist _ | apply List.Sublist.cons) (yv_of_yq rfl (yq_index_slice rfl (by (conv => lhs; whnf) <;> rfl) (by (conv => lhs; whnf) <;> rfl) ts22 ti25 (by omega) (by omega))) ?_
        refine HW.take 7 rfl (by kernel_rfl) (by kernel_rfl) (by kernel_rfl) rfl rfl (by repeat' first | exact List.Sublist.refl _ | exact List.nil_sublist _ | apply List.Sublist.cons) (yv_of_yq rfl (yq_load_hs (i := r.length) (v := x) rfl (by (conv => lhs; whnf) <;> rfl) ti25 (fun w hw => hs.mono hw) (by simp))) ?_
        refine HW.two 1 8 (by kernel_rfl) rfl rfl ?_ ?_
        · refine OW.q rfl rfl (yq_call rfl rfl (.cons (by (conv => lhs; whnf) <;> rfl) .nil) en39 (fun w hw => rsplit_c _ _ w hsp (by omega) (by omega))) ?_
          refine OW.nil ⟨rfl, (by repeat' first | exact List.Sublist.refl _ | exact List.nil_sublist _ | apply List.Sublist.cons), ?_⟩
          refine HW.one 8 (by kernel_rfl) rfl ?_
          refine OW.alloc rfl rfl rfl tz25 (fun b11 => ?_)
          refine OW.nil ⟨rfl, (by repeat' first | exact List.Sublist.refl _ | exact List.nil_sublist _ | apply List.Sublist.cons), ?_⟩
          refine HW.take 9 rfl (by kernel_rfl) (by kernel_rfl) (by kernel_rfl) rfl rfl (by repeat' first | exact List.Sublist.refl _ | exact List.nil_sublist _ | apply List.Sublist.cons) (yv_of_yq rfl (yq_assign rfl (by (conv => lhs; whnf) <;> rfl))) ?_
          refine HW.one 10 (by kernel_rfl) rfl ?_
          refine OW.storeH rfl rfl rfl (by (conv => lhs; whnf) <;> rfl) (by (conv => lhs; whnf) <;> rfl) ti25 (by repeat' first | exact Put.head | apply Put.tail) (hc_length _) ?_
          refine OW.nil ⟨rfl, (by repeat' first | exact List.Sublist.refl _ | exact List.nil_sublist _ | apply List.Sublist.cons), ?_⟩
          refine HW.done (by kernel_rfl) ?_
          exact ⟨rfl, _, _, _, Has.mk ⟨(by (conv => lhs; whnf) <;> rfl), (by (conv => lhs; whnf) <;> rfl), (by (conv => lhs; whnf) <;> rfl), (by (conv => lhs; whnf) <;> rfl), (by (conv => lhs; whnf) <;> rfl), (by (conv => lhs; whnf) <;> rfl), (by (conv => lhs; whnf) <;> rfl), trivial⟩, rfl⟩
        · refine OW.alloc rfl rfl rfl tz25 (fun b11 => ?_)
          refine OW.nil ⟨rfl, (by repeat' first | exact List.Sublist.refl _ | exact List.nil_sublist _ | apply List.Sublist.cons), ?_⟩
          refine HW.one 1 (by kernel_rfl) rfl ?_
          refine OW.q rfl rfl (yq_call rfl rfl (.cons (by (conv => lhs; whnf) <;> rfl) .nil) en39 (fun w hw => rsplit_c _ _ w hsp (by omega) (by omega))) ?_
          refine OW.nil ⟨rfl, (by repeat' first | exact List.Sublist.refl _ | exact List.nil_sublist _ | apply List.Sublist.cons), ?_⟩
          refine HW.take 9 rfl (by kernel_rfl) (by kernel_rfl) (by kernel_rfl) rfl rfl (by repeat' first | exact List.Sublist.refl _ | exact List.nil_sublist _ | apply List.Sublist.cons) (yv_of_yq rfl (yq_assign rfl (by (conv => lhs; whnf) <;> rfl))) ?_
          refine HW.one 10 (by kernel_rfl) rfl ?_
          refine OW.storeH rfl rfl rfl (by (conv => lhs; whnf) <;> rfl) (by (conv => lhs; whnf) <;> rfl) ti25 (by repeat' first | exact Put.head | apply Put.tail) (hc_length _) ?_
          refine OW.nil ⟨rfl, (by repeat' first | exact List.Sublist.refl _ | exact List.nil_sublist _ | apply List.Sublist.cons), ?_⟩
          refine HW.done (by kernel_rfl) ?_
          exact ⟨rfl, _, _, _, Has.mk ⟨(by (conv => lhs; whnf) <;> rfl), (by (conv => lhs; whnf) <;> rfl), (by (conv => lhs; whnf) <;> rfl), (by (conv => lhs; whnf) <;> rfl), (by (conv => lhs; whnf) <;> rfl), (by (conv => lhs; whnf) <;> rfl), (by (conv => lhs; whnf) <;> rfl), trivial⟩, rfl⟩
      · rintro _ _ ⟨b4, b8, b11, ⟨ρ', rfl⟩, rfl⟩
        refine CW.seq_k fun K8 hK8 => ?_
        refine CW.region ?_
        refine OW.q rfl rfl (yq_move rfl (by (conv => lhs; whnf) <;> rfl)) ?_
        refine OW.q rfl rfl (yq_move rfl (by (conv => lhs; whnf) <;> rfl)) ?_
        refine OW.q rfl rfl (yq_len_slice rfl ts22 (by (conv => lhs; whnf) <;> rfl)) ?_
        refine OW.q rfl rfl (yq_sub_e (r := (r.length : Int)) rfl (by (conv => lhs; whnf) <;> rfl) (by (conv => lhs; whnf) <;> rfl) (by rw [hl1, wrap64_in (by omega)])) ?_
        refine OW.q rfl rfl (yq_slice_slice (l := 0) (h := r.length) rfl (by (conv => lhs; whnf) <;> rfl) ts22 ti25 rfl ⟨_, _, (by (conv => lhs; whnf) <;> rfl), by omega, by omega⟩ (by omega) (by omega)) ?_
        refine OW.q rfl rfl (yq_assign rfl (by (conv => lhs; whnf) <;> rfl)) ?_
        refine OW.nil ?_
        refine hK8 _ _ ?_
        refine CW.seq_k fun K9 hK9 => ?_
        refine CW.seq_k fun K10 hK10 => ?_
        refine CW.region ?_
        refine OW.q rfl rfl (yq_move rfl (by (conv => lhs; whnf) <;> rfl)) ?_
        refine OW.q rfl rfl (yq_move rfl (by (conv => lhs; whnf) <;> rfl)) ?_
        refine OW.q rfl rfl (yq_lss rfl (by (conv => lhs; whnf) <;> rfl) (by (conv => lhs; whnf) <;> rfl)) ?_
        refine OW.nil ?_
        refine hK10 _ _ ?_
        refine CW.cond_dec (by (conv => lhs; whnf) <;> rfl) (fun hc2 => ?_) (fun hc2 => ?_)
        · have hlt : i < q := by omega
          refine CW.seq_k fun K11 hK11 => ?_
          refine CW.region ?_
          refine OW.q rfl rfl (yq_loadH rfl (by (conv => lhs; whnf) <;> rfl) ti25 (by repeat' first | exact List.mem_cons_self .. | apply List.mem_cons_of_mem)) ?_
          refine OW.q rfl rfl (yq_move rfl (by (conv => lhs; whnf) <;> rfl)) ?_
          refine OW.q rfl rfl (yq_move rfl (by (conv => lhs; whnf) <;> rfl)) ?_
          refine OW.q rfl rfl (yq_move rfl (by (conv => lhs; whnf) <;> rfl)) ?_
          refine OW.q rfl rfl (yq_call rfl rfl (.cons (by (conv => lhs; whnf) <;> rfl) ( .cons (by (conv => lhs; whnf) <;> rfl) ( .cons (by (conv => lhs; whnf) <;> rfl) ( .cons (by (conv => lhs; whnf) <;> rfl) .nil)))) en120 (fun w hw => ih leaf i q r _ w (by omega) (by omega) (by omega) (by omega) hlt (hsr.mono hw))) ?_
          refine OW.q rfl rfl (yq_move rfl (by (conv => lhs; whnf) <;> rfl)) ?_
          refine OW.q rfl rfl (yq_extract rfl (by (conv => lhs; whnf) <;> rfl) rfl) ?_
          refine OW.q rfl rfl (yq_extract rfl (by (conv => lhs; whnf) <;> rfl) rfl) ?_
          refine OW.alloc rfl rfl rfl tz25 (fun b13 => ?_)
          refine OW.storeH rfl rfl rfl (by (conv => lhs; whnf) <;> rfl) (by (conv => lhs; whnf) <;> rfl) ti25 (by repeat' first | exact Put.head | apply Put.tail) (hc_length _) ?_
          refine OW.q rfl rfl (yq_assign rfl (by (conv => lhs; whnf) <;> rfl)) ?_
          refine OW.nil ?_
          refine hK11 _ _ ?_
          refine CW.seq_k fun K12 hK12 => ?_
          refine CW.region ?_
          refine OW.q rfl rfl (yq_loadH rfl (by (conv => lhs; whnf) <;> rfl) ti25 (by repeat' first | exact List.mem_cons_self .. | apply List.mem_cons_of_mem)) ?_
          refine OW.q rfl rfl (yq_loadH rfl (by (conv => lhs; whnf) <;> rfl) ti25 (by repeat' first | exact List.mem_cons_self .. | apply List.mem_cons_of_mem)) ?_
          refine OW.q rfl rfl (yq_call rfl rfl (.cons (by (conv => lhs; whnf) <;> rfl) ( .cons (by (conv => lhs; whnf) <;> rfl) .nil)) en38 (fun w hw => refnode_calls _ _ w)) ?_
          refine OW.q rfl rfl (yq_move rfl (by (conv => lhs; whnf) <;> rfl)) ?_
          refine OW.storeH rfl rfl rfl (by (conv => lhs; whnf) <;> rfl) (by (conv => lhs; whnf) <;> rfl) ti25 (by repeat' first | exact Put.head | apply Put.tail) (hc_length _) ?_
          refine OW.q rfl rfl (yq_assign rfl (by (conv => lhs; whnf) <;> rfl)) ?_
          refine OW.nil ?_
          refine hK12 _ _ ?_
          refine CW.ret ?_
          refine then_ret ?_
          -- ret (ret)
          rw [hrv, comeF_left (by omega) (by rw [← hq]; exact hlt), ← hq]
          exact fin2 (Or.inr rfl) rfl (rv_hash (by decide) (by (conv => lhs; whnf) <;> rfl) ti25 (List.mem_cons_of_mem _ (List.mem_cons_of_mem _ (List.mem_cons_self ..)))) ⟨by decide, (by (conv => lhs; whnf) <;> rfl)⟩ (fun w hw => ⟨rfl, hw.sub (by simp)⟩)
        · have hlt : ¬ i < q := by omega
          have hiq : (i : Int) - (q : Int) = ((i - q : Nat) : Int) := by omega
          have hnq : (n : Int) - (q : Int) = ((n - q : Nat) : Int) := by omega
          refine CW.skip ?_
          refine hK9 _ _ ?_
          refine CW.seq_k fun K13 hK13 => ?_
          refine CW.region ?_
          refine OW.q rfl rfl (yq_loadH rfl (by (conv => lhs; whnf) <;> rfl) ti25 (by repeat' first | exact List.mem_cons_self .. | apply List.mem_cons_of_mem)) ?_
          refine OW.q rfl rfl (yq_move rfl (by (conv => lhs; whnf) <;> rfl)) ?_
          refine OW.q rfl rfl (yq_move rfl (by (conv => lhs; whnf) <;> rfl)) ?_
          refine OW.q rfl rfl (yq_sub_e (r := ((i - q : Nat) : Int)) rfl (by (conv => lhs; whnf) <;> rfl) (by (conv => lhs; whnf) <;> rfl) (by rw [hiq, wrap64_in (by omega)])) ?_
          refine OW.q rfl rfl (yq_move rfl (by (conv => lhs; whnf) <;> rfl)) ?_
          refine OW.q rfl rfl (yq_move rfl (by (conv => lhs; whnf) <;> rfl)) ?_
          refine OW.q rfl rfl (yq_sub_e (r := ((n - q : Nat) : Int)) rfl (by (conv => lhs; whnf) <;> rfl) (by (conv => lhs; whnf) <;> rfl) (by rw [hnq, wrap64_in (by omega)])) ?_
          refine OW.q rfl rfl (yq_move rfl (by (conv => lhs; whnf) <;> rfl)) ?_
          refine OW.q rfl rfl (yq_call rfl rfl (.cons (by (conv => lhs; whnf) <;> rfl) ( .cons (by (conv => lhs; whnf) <;> rfl) ( .cons (by (conv => lhs; whnf) <;> rfl) ( .cons (by (conv => lhs; whnf) <;> rfl) .nil)))) en120 (fun w hw => ih leaf (i - q) (n - q) r _ w (by omega) (by omega) (by omega) (by omega) (by omega) (hsr.mono hw))) ?_
          refine OW.q rfl rfl (yq_move rfl (by (conv => lhs; whnf) <;> rfl)) ?_
          refine OW.q rfl rfl (yq_extract rfl (by (conv => lhs; whnf) <;> rfl) rfl) ?_
          refine OW.q rfl rfl (yq_extract rfl (by (conv => lhs; whnf) <;> rfl) rfl) ?_
          refine OW.alloc rfl rfl rfl tz25 (fun b15 => ?_)
          refine OW.storeH rfl rfl rfl (by (conv => lhs; whnf) <;> rfl) (by (conv => lhs; whnf) <;> rfl) ti25 (by repeat' first | exact Put.head | apply Put.tail) (hc_length _) ?_
          refine OW.q rfl rfl (yq_assign rfl (by (conv => lhs; whnf) <;> rfl)) ?_
          refine OW.nil ?_
          refine hK13 _ _ ?_
          refine CW.seq_k fun K14 hK14 => ?_
          refine CW.region ?_
          refine OW.q rfl rfl (yq_loadH rfl (by (conv => lhs; whnf) <;> rfl) ti25 (by repeat' first | exact List.mem_cons_self .. | apply List.mem_cons_of_mem)) ?_
          refine OW.q rfl rfl (yq_loadH rfl (by (conv => lhs; whnf) <;> rfl) ti25 (by repeat' first | exact List.mem_cons_self .. | apply List.mem_cons_of_mem)) ?_
          refine OW.q rfl rfl (yq_call rfl rfl (.cons (by (conv => lhs; whnf) <;> rfl) ( .cons (by (conv => lhs; whnf) <;> rfl) .nil)) en38 (fun w hw => refnode_calls _ _ w)) ?_
          refine OW.q rfl rfl (yq_move rfl (by (conv => lhs; whnf) <;> rfl)) ?_
          refine OW.storeH rfl rfl rfl (by (conv => lhs; whnf) <;> rfl) (by (conv => lhs; whnf) <;> rfl) ti25 (by repeat' first | exact Put.head | apply Put.tail) (hc_length _) ?_
          refine OW.q rfl rfl (yq_assign rfl (by (conv => lhs; whnf) <;> rfl)) ?_
          refine OW.nil ?_
          refine hK14 _ _ ?_
          refine CW.ret ?_
          -- ret (ret)
          rw [hrv, comeF_right (by omega) (by rw [← hq]; exact hlt), ← hq]
          exact fin2 (Or.inr rfl) rfl (rv_hash (by decide) (by (conv => lhs; whnf) <;> rfl) ti25 (List.mem_cons_of_mem _ (List.mem_cons_of_mem _ (List.mem_cons_self ..)))) ⟨by decide, (by (conv => lhs; whnf) <;> rfl)⟩ (fun w hw => ⟨rfl, hw.sub (by simp)⟩)

theorem come_calls (leaf : Hash) (i n : Nat) (p : List Hash) (v : Value) (w : World) (hpl : p.length ≤ 4294967296) (hn1 : 1 ≤ n) (hnl : n ≤ 4294967296) (hin : i < n) (hs : HsAt w v p) :
    Calls Tryd.prog 120 #[HV leaf, .int .i64 (i : Int), .int .i64 (n : Int), v] w fun e w' => e = .returned (.tuple #[HV (comeF leaf i n p.reverse).1, .bool (comeF leaf i n p.reverse).2]) ∧ Cl w [] [] w' := by
  have : ∀ m, ComeP m := by
    intro m
    induction m with
    | zero => intro leaf i n p v w h; omega
    | succ m ih => exact come_step m ih
  exact this (p.length + 1) leaf i n p v w (by omega) hpl hn1 hnl hin hs
/-- Whether a leaf is checked. -/
def checkL (leaf : Hash) (i n : Int) (p : List Hash) (root : Hash) : Int := if ((n < 1 ∨ 4096 < n) ∨ i < 0) ∨ n ≤ i then 2 else if comeR leaf i.toNat n.toNat p.reverse = some root then 0 else 80
theorem checkL_bad {leaf : Hash} {i n : Int} {p : List Hash} {root : Hash} (h : ((n < 1 ∨ 4096 < n) ∨ i < 0) ∨ n ≤ i) : checkL leaf i n p root = 2 := if_pos h
theorem checkL_in {leaf : Hash} {i n : Nat} {p : List Hash} {root : Hash} (h : ¬ ((((n : Int) < 1 ∨ 4096 < (n : Int)) ∨ (i : Int) < 0) ∨ (n : Int) ≤ (i : Int))) : checkL leaf i n p root = if comeR leaf i n p.reverse = some root then 0 else 80 := by
  unfold checkL
  rw [if_neg h]
  simp

set_option maxRecDepth 100000 in
set_option maxHeartbeats 1000000 in
theorem rcheck_calls (leaf root : Hash) (i n : Int) (p : List Hash) (v : Value) (w : World) (hpl : p.length ≤ 4294967296) (hs : HsAt w v p) :
    Calls Tryd.prog 50 #[HV leaf, .int .i64 i, .int .i64 n, v, HV root] w fun e w' => e = .returned (.int .i64 (checkL leaf i n p root)) ∧ Cl w [] [] w' := by
  refine calls_of_CW (L := []) Tryd.func50 rfl (Nat.le_of_ble_eq_true rfl) (Cl.refl _) ?_
  refine CW.seq_k fun K1 hK1 => ?_
  refine CW.region ?_
  refine OW.box rfl rfl rfl (by (conv => lhs; whnf) <;> rfl) (by rfl) (fun b5 => ?_)
  refine OW.box rfl rfl rfl (by (conv => lhs; whnf) <;> rfl) (by rfl) (fun b9 => ?_)
  refine OW.q rfl rfl (yq_assign rfl (by (conv => lhs; whnf) <;> rfl)) ?_
  refine OW.nil ?_
  refine hK1 _ _ ?_
  refine CW.seq_k fun K2 hK2 => ?_
  refine CW.seq_k fun K3 hK3 => ?_
  refine CW.region ?_
  refine OW.q rfl rfl (yq_move rfl (by (conv => lhs; whnf) <;> rfl)) ?_
  refine OW.qb rfl rfl (yq_lss rfl (by (conv => lhs; whnf) <;> rfl) (by (conv => lhs; whnf) <;> rfl)) (fun b14 hb14 => ?_)
  refine OW.q rfl rfl (yq_move rfl (by (conv => lhs; whnf) <;> rfl)) ?_
  apply OW.segOr 3 [16, 17] 18 hb14
  · intro hb14e
    refine QW.q (by subst hb14e; rfl) rfl (yq_move rfl (by (conv => lhs; whnf) <;> rfl)) ?_
    refine QW.qb (by subst hb14e; rfl) rfl (yq_gtr rfl (by (conv => lhs; whnf) <;> rfl) (by (conv => lhs; whnf) <;> rfl)) (fun b17 hb17 => ?_)
    refine QW.q rfl rfl (yq_pick rfl (by (conv => lhs; whnf) <;> rfl) (by subst hb14e; ((conv => lhs; whnf) <;> rfl))) ?_
    exact QW.nil (SegM.mk (any_c (any_c any_n)) (or_run hb14 hb14e hb17))
  · intro hb14e
    refine QW.skip (by subst hb14e; rfl) rfl ?_
    refine QW.skip (by subst hb14e; rfl) rfl ?_
    refine QW.q rfl rfl (yq_pick rfl (by (conv => lhs; whnf) <;> rfl) (by subst hb14e; ((conv => lhs; whnf) <;> rfl))) ?_
    exact QW.nil (SegM.mk (any_c (any_c any_n)) (or_skip hb14 hb14e))
  · intro ρ18 b18 hA hb18
    obtain ⟨x16, x17, rfl⟩ := hA
    refine OW.q rfl rfl (yq_move rfl (by (conv => lhs; whnf) <;> rfl)) ?_
    apply OW.segOr 3 [20, 21] 22 hb18
    · intro hb18e
      refine QW.q (by subst hb18e; rfl) rfl (yq_move rfl (by (conv => lhs; whnf) <;> rfl)) ?_
      refine QW.qb (by subst hb18e; rfl) rfl (yq_lss rfl (by (conv => lhs; whnf) <;> rfl) (by (conv => lhs; whnf) <;> rfl)) (fun b21 hb21 => ?_)
      refine QW.q rfl rfl (yq_pick rfl (by (conv => lhs; whnf) <;> rfl) (by subst hb18e; ((conv => lhs; whnf) <;> rfl))) ?_
      exact QW.nil (SegM.mk (any_c (any_c any_n)) (or_run hb18 hb18e hb21))
    · intro hb18e
      refine QW.skip (by subst hb18e; rfl) rfl ?_
      refine QW.skip (by subst hb18e; rfl) rfl ?_
      refine QW.q rfl rfl (yq_pick rfl (by (conv => lhs; whnf) <;> rfl) (by subst hb18e; ((conv => lhs; whnf) <;> rfl))) ?_
      exact QW.nil (SegM.mk (any_c (any_c any_n)) (or_skip hb18 hb18e))
    · intro ρ22 b22 hA hb22
      obtain ⟨x20, x21, rfl⟩ := hA
      refine OW.q rfl rfl (yq_move rfl (by (conv => lhs; whnf) <;> rfl)) ?_
      apply OW.segOr 4 [24, 25, 26] 27 hb22
      · intro hb22e
        refine QW.q (by subst hb22e; rfl) rfl (yq_move rfl (by (conv => lhs; whnf) <;> rfl)) ?_
        refine QW.q (by subst hb22e; rfl) rfl (yq_move rfl (by (conv => lhs; whnf) <;> rfl)) ?_
        refine QW.qb (by subst hb22e; rfl) rfl (yq_geq rfl (by (conv => lhs; whnf) <;> rfl) (by (conv => lhs; whnf) <;> rfl)) (fun b26 hb26 => ?_)
        refine QW.q rfl rfl (yq_pick rfl (by (conv => lhs; whnf) <;> rfl) (by subst hb22e; ((conv => lhs; whnf) <;> rfl))) ?_
        exact QW.nil (SegM.mk (any_c (any_c (any_c any_n))) (or_run hb22 hb22e hb26))
      · intro hb22e
        refine QW.skip (by subst hb22e; rfl) rfl ?_
        refine QW.skip (by subst hb22e; rfl) rfl ?_
        refine QW.skip (by subst hb22e; rfl) rfl ?_
        refine QW.q rfl rfl (yq_pick rfl (by (conv => lhs; whnf) <;> rfl) (by subst hb22e; ((conv => lhs; whnf) <;> rfl))) ?_
        exact QW.nil (SegM.mk (any_c (any_c (any_c any_n))) (or_skip hb22 hb22e))
      · intro ρ27 b27 hA hb27
        obtain ⟨x24, x25, x26, rfl⟩ := hA
        refine OW.nil ?_
        refine hK3 _ _ ?_
        refine CW.condq (by (conv => lhs; whnf) <;> rfl) hb27 (fun hc0 => ?_) (fun hc0 => ?_)
        · refine CW.seq_k fun K4 hK4 => ?_
          refine CW.region ?_
          refine OW.q rfl rfl (yq_assign rfl (by (conv => lhs; whnf) <;> rfl)) ?_
          refine OW.nil ?_
          refine hK4 _ _ ?_
          refine CW.ret ?_
          refine then_ret ?_
          -- ret (ret)
          rw [checkL_bad hc0]
          exact fin1 (Or.inr rfl) rfl ⟨by decide, (by (conv => lhs; whnf) <;> rfl)⟩ (fun w hw => ⟨rfl, hw.sub (by simp)⟩)
        · obtain ⟨k, rfl⟩ : ∃ k : Nat, i = (k : Int) := ⟨i.toNat, by omega⟩
          obtain ⟨m, rfl⟩ : ∃ m : Nat, n = (m : Int) := ⟨n.toNat, by omega⟩
          have hR := comeR_F leaf p.reverse k m
          obtain ⟨F, hF⟩ : ∃ F, F = comeF leaf k m p.reverse := ⟨_, rfl⟩
          rw [← hF] at hR
          refine CW.skip ?_
          refine hK2 _ _ ?_
          refine CW.seq_k fun K5 hK5 => ?_
          refine CW.region ?_
          refine OW.q rfl rfl (yq_loadH rfl (by (conv => lhs; whnf) <;> rfl) ti25 (by repeat' first | exact List.mem_cons_self .. | apply List.mem_cons_of_mem)) ?_
          refine OW.q rfl rfl (yq_move rfl (by (conv => lhs; whnf) <;> rfl)) ?_
          refine OW.q rfl rfl (yq_move rfl (by (conv => lhs; whnf) <;> rfl)) ?_
          refine OW.q rfl rfl (yq_move rfl (by (conv => lhs; whnf) <;> rfl)) ?_
          refine OW.q rfl rfl (yq_call rfl rfl (.cons (by (conv => lhs; whnf) <;> rfl) ( .cons (by (conv => lhs; whnf) <;> rfl) ( .cons (by (conv => lhs; whnf) <;> rfl) ( .cons (by (conv => lhs; whnf) <;> rfl) .nil)))) en120 (fun w hw => by have := come_calls leaf k m p _ w hpl (by omega) (by omega) (by omega) (hs.mono hw); rw [← hF] at this; exact this)) ?_
          refine OW.q rfl rfl (yq_move rfl (by (conv => lhs; whnf) <;> rfl)) ?_
          refine OW.q rfl rfl (yq_extract rfl (by (conv => lhs; whnf) <;> rfl) rfl) ?_
          refine OW.q rfl rfl (yq_extract rfl (by (conv => lhs; whnf) <;> rfl) rfl) ?_
          refine OW.alloc rfl rfl rfl tz25 (fun b11 => ?_)
          refine OW.storeH rfl rfl rfl (by (conv => lhs; whnf) <;> rfl) (by (conv => lhs; whnf) <;> rfl) ti25 (by repeat' first | exact Put.head | apply Put.tail) (hc_length _) ?_
          refine OW.q rfl rfl (yq_assign rfl (by (conv => lhs; whnf) <;> rfl)) ?_
          refine OW.nil ?_
          refine hK5 _ _ ?_
          refine CW.seq_k fun K6 hK6 => ?_
          refine CW.seq_k fun K7 hK7 => ?_
          refine CW.region ?_
          refine OW.q rfl rfl (yq_move rfl (by (conv => lhs; whnf) <;> rfl)) ?_
          refine OW.qn rfl rfl (yq_not rfl (by (conv => lhs; whnf) <;> rfl)) (Iff.refl _) (fun b37 hb37 => ?_)
          refine OW.q rfl rfl (yq_move rfl (by (conv => lhs; whnf) <;> rfl)) ?_
          apply OW.segOr 4 [39, 40, 41] 42 hb37
          · intro hb37e
            refine QW.q (by subst hb37e; rfl) rfl (yq_loadH rfl (by (conv => lhs; whnf) <;> rfl) ti25 (by repeat' first | exact List.mem_cons_self .. | apply List.mem_cons_of_mem)) ?_
            refine QW.q (by subst hb37e; rfl) rfl (yq_loadH rfl (by (conv => lhs; whnf) <;> rfl) ti25 (by repeat' first | exact List.mem_cons_self .. | apply List.mem_cons_of_mem)) ?_
            refine QW.qb (by subst hb37e; rfl) rfl (yq_neq_H rfl (by (conv => lhs; whnf) <;> rfl) (by (conv => lhs; whnf) <;> rfl) ta25 Tryd.underlying5 ti5 eg25) (fun b41 hb41 => ?_)
            refine QW.q rfl rfl (yq_pick rfl (by (conv => lhs; whnf) <;> rfl) (by subst hb37e; ((conv => lhs; whnf) <;> rfl))) ?_
            exact QW.nil (SegM.mk (any_c (any_c (any_c any_n))) (or_run hb37 hb37e hb41))
          · intro hb37e
            refine QW.skip (by subst hb37e; rfl) rfl ?_
            refine QW.skip (by subst hb37e; rfl) rfl ?_
            refine QW.skip (by subst hb37e; rfl) rfl ?_
            refine QW.q rfl rfl (yq_pick rfl (by (conv => lhs; whnf) <;> rfl) (by subst hb37e; ((conv => lhs; whnf) <;> rfl))) ?_
            exact QW.nil (SegM.mk (any_c (any_c (any_c any_n))) (or_skip hb37 hb37e))
          · intro ρ42 b42 hA hb42
            obtain ⟨x39, x40, x41, rfl⟩ := hA
            refine OW.nil ?_
            refine hK7 _ _ ?_
            refine CW.condq (by (conv => lhs; whnf) <;> rfl) hb42 (fun hc1 => ?_) (fun hc1 => ?_)
            · refine CW.seq_k fun K8 hK8 => ?_
              refine CW.region ?_
              refine OW.q rfl rfl (yq_assign rfl (by (conv => lhs; whnf) <;> rfl)) ?_
              refine OW.nil ?_
              refine hK8 _ _ ?_
              refine CW.ret ?_
              refine then_ret ?_
              -- ret (ret)
              rw [checkL_in hc0, hR, if_neg (by
                rcases hc1 with h | h
                · rw [if_neg h]; simp
                · split
                  · simpa using h
                  · simp)]
              exact fin1 (Or.inr rfl) rfl ⟨by decide, (by (conv => lhs; whnf) <;> rfl)⟩ (fun w hw => ⟨rfl, hw.sub (by simp)⟩)
            · refine CW.skip ?_
              refine hK6 _ _ ?_
              refine CW.seq_k fun K9 hK9 => ?_
              refine CW.region ?_
              refine OW.q rfl rfl (yq_assign rfl (by (conv => lhs; whnf) <;> rfl)) ?_
              refine OW.nil ?_
              refine hK9 _ _ ?_
              refine CW.ret ?_
              -- ret (ret)
              rw [checkL_in hc0, hR, if_pos (by
                have h1 : F.2 = true := Decidable.byContradiction fun h => hc1 (.inl h)
                have h2 : F.1 = root := Decidable.byContradiction fun h => hc1 (.inr h)
                rw [if_pos h1, h2])]
              exact fin1 (Or.inr rfl) rfl ⟨by decide, (by (conv => lhs; whnf) <;> rfl)⟩ (fun w hw => ⟨rfl, hw.sub (by simp)⟩)

end Go.Proofs.YtahdekllphehkaaDoor
