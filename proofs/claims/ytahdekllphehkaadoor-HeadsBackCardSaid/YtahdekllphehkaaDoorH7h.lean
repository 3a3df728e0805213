/- The walk of HeadsBack; no statement of the seat is proved here. -/
import Derived.Test.YtahdekllphehkaaDoorH6h
set_option linter.unusedVariables false
set_option linter.unusedSimpArgs false
namespace Go.Proofs.YtahdekllphehkaaDoor
open Go.WL Go.Spec
set_option maxRecDepth 100000 in
set_option maxHeartbeats 1000000 in
theorem headsBack_calls (x : Rg) (vx : Value) (bh : Bytes) (C : Int) (w : World) (hox : x.ok) (hC1 : 0 ≤ C) (hC2 : C ≤ 65535) (hx : HsAt w vx x.path) (hg : GL w) :
    Calls Tryd.prog 15 #[RgV x vx, .string (bs bh), .int .u16 C] w fun e w' => e = .returned (.bool true) ∧ Cl w [] [] w' := by
  have hx0 := hx
  obtain ⟨ax, cx, rfl⟩ := hx0.len
  have hxs := Rg.sig_le hox
  refine calls_of_CW (L := []) Tryd.func15 rfl (Nat.le_of_ble_eq_true rfl) (Cl.refl _) ?_
  refine CW.seq_k fun K1 hK1 => ?_
  refine CW.region ?_
  refine OW.box (cs := rgC x (.slice ax x.path.length cx)) rfl rfl rfl (by (conv => lhs; whnf) <;> rfl) rfl (fun b3 => ?_)
  refine OW.q rfl rfl (yq_assign rfl (by (conv => lhs; whnf) <;> rfl)) ?_
  refine OW.nil ?_
  refine hK1 _ _ ?_
  refine CW.seq_k fun K2 hK2 => ?_
  refine CW.seq_k fun K3 hK3 => ?_
  refine CW.region ?_
  refine OW.q rfl rfl (yq_loadW (cs := rgC x (.slice ax x.path.length cx)) rfl (by (conv => lhs; whnf) <;> rfl) (by rw [rgC_length]; exact ti36) (by repeat' first | exact List.mem_cons_self .. | apply List.mem_cons_of_mem)) ?_
  refine OW.qb rfl rfl (yq_call rfl rfl (.cons (by (conv => lhs; whnf) <;> rfl) .nil) en62 (fun w hw => great_calls x _ w (hx.mono hw))) (fun b17 hb17 => ?_)
  refine OW.q rfl rfl (yq_move rfl (by (conv => lhs; whnf) <;> rfl)) ?_
  apply OW.segOr 4 [19, 20, 21] 22 hb17
  · intro hb17e
    refine QW.q (by subst hb17e; rfl) rfl (yq_move rfl (by (conv => lhs; whnf) <;> rfl)) ?_
    refine QW.q (by subst hb17e; rfl) rfl (yq_len_bs rfl tt9 (by (conv => lhs; whnf) <;> rfl)) ?_
    refine QW.qb (by subst hb17e; rfl) rfl (yq_gtr rfl (by (conv => lhs; whnf) <;> rfl) (by (conv => lhs; whnf) <;> rfl)) (fun b21 hb21 => ?_)
    refine QW.q rfl rfl (yq_pick rfl (by (conv => lhs; whnf) <;> rfl) (by subst hb17e; ((conv => lhs; whnf) <;> rfl))) ?_
    exact QW.nil (SegM.mk (any_c (any_c (any_c any_n))) (or_run hb17 hb17e hb21))
  · intro hb17e
    refine QW.skip (by subst hb17e; rfl) rfl ?_
    refine QW.skip (by subst hb17e; rfl) rfl ?_
    refine QW.skip (by subst hb17e; rfl) rfl ?_
    refine QW.q rfl rfl (yq_pick rfl (by (conv => lhs; whnf) <;> rfl) (by subst hb17e; ((conv => lhs; whnf) <;> rfl))) ?_
    exact QW.nil (SegM.mk (any_c (any_c (any_c any_n))) (or_skip hb17 hb17e))
  · intro ρ22 b22 hA hb22
    obtain ⟨x19, x20, x21, rfl⟩ := hA
    refine OW.nil ?_
    refine hK3 _ _ ?_
    refine CW.condq (by (conv => lhs; whnf) <;> rfl) hb22 (fun hc0 => ?_) (fun hc0 => ?_)
    · refine CW.seq_k fun K4 hK4 => ?_
      refine CW.region ?_
      refine OW.q rfl rfl (yq_call rfl rfl .nil en63 (fun w hw => headed_calls w (Cl_gl0 hw hg))) ?_
      refine OW.q rfl rfl (yq_assign rfl (by (conv => lhs; whnf) <;> rfl)) ?_
      refine OW.nil ?_
      refine hK4 _ _ ?_
      refine CW.ret ?_
      refine then_ret ?_
      -- ret (ret)
      exact fin1 (Or.inr rfl) rfl ⟨by decide, (by (conv => lhs; whnf) <;> rfl)⟩ (fun w hw => ⟨rfl, hw.sub (List.nil_sublist _)⟩)
    · have hg1 : ¬ x.great := fun h => hc0 (.inl h)
      have hg2 : bh.length ≤ 50 := by
        have h2 : ¬ _ := fun h => hc0 (.inr h)
        omega
      unfold Rg.great at hg1
      clear hc0
      have hpx : x.sg.path.length ≤ 4294967296 := by show x.path.length ≤ _; omega
      refine CW.skip ?_
      refine hK2 _ _ ?_
      refine CW.seq_k fun K5 hK5 => ?_
      refine CW.region ?_
      refine OW.q rfl rfl (yq_loadW (cs := rgC x (.slice ax x.path.length cx)) rfl (by (conv => lhs; whnf) <;> rfl) (by rw [rgC_length]; exact ti36) (by repeat' first | exact List.mem_cons_self .. | apply List.mem_cons_of_mem)) ?_
      refine OW.q rfl rfl (yq_call rfl rfl (.cons (by (conv => lhs; whnf) <;> rfl) .nil) en65 (fun w hw => signed_calls x _ w hox (by omega) (hx.mono hw))) ?_
      refine OW.alloc rfl rfl rfl tz46 (fun b7 => ?_)
      refine OW.store' rfl rfl rfl (by (conv => lhs; whnf) <;> rfl) (by (conv => lhs; whnf) <;> rfl) (vs := sgC x.sg (.slice ax x.path.length cx)) (by rw [sgC_length]; exact ti46) rfl (sgC_one rfl) (by repeat' first | exact Put.head | apply Put.tail) (cs' := sgC x.sg (.slice ax x.path.length cx)) (spl_eqlen (by first | (simp only [sgC_length]; done) | (simp only [sgC_length]; rfl))) (by simp only [sgC_length]; exact Nat.le_of_ble_eq_true rfl) ?_
      refine OW.nil ?_
      refine hK5 _ _ ?_
      refine CW.seq_k fun K6 hK6 => ?_
      refine CW.region ?_
      refine OW.q rfl rfl (yq_loadW (cs := sgC x.sg (.slice ax x.path.length cx)) rfl (by (conv => lhs; whnf) <;> rfl) (by rw [sgC_length]; exact ti46) (by repeat' first | exact List.mem_cons_self .. | apply List.mem_cons_of_mem)) ?_
      refine OW.q rfl rfl (yq_call rfl rfl (.cons (by (conv => lhs; whnf) <;> rfl) .nil) en69 (fun w hw => put2_calls x.sg _ w (hx.mono hw))) ?_
      refine OW.q rfl rfl (yq_move rfl (by (conv => lhs; whnf) <;> rfl)) ?_
      refine OW.q rfl rfl (yq_extract rfl (by (conv => lhs; whnf) <;> rfl) rfl) ?_
      refine OW.q rfl rfl (yq_extract rfl (by (conv => lhs; whnf) <;> rfl) rfl) ?_
      refine OW.q rfl rfl (yq_assign rfl (by (conv => lhs; whnf) <;> rfl)) ?_
      refine OW.q rfl rfl (yq_assign rfl (by (conv => lhs; whnf) <;> rfl)) ?_
      refine OW.nil ?_
      refine hK6 _ _ ?_
      refine CW.seq_k fun K7 hK7 => ?_
      refine CW.seq_k fun K8 hK8 => ?_
      refine CW.region ?_
      refine OW.q rfl rfl (yq_loadW (cs := sgC x.sg (.slice ax x.path.length cx)) rfl (by (conv => lhs; whnf) <;> rfl) (by rw [sgC_length]; exact ti46) (by repeat' first | exact List.mem_cons_self .. | apply List.mem_cons_of_mem)) ?_
      refine OW.q rfl rfl (yq_call rfl rfl (.cons (by (conv => lhs; whnf) <;> rfl) .nil) en70 (fun w hw => valid_calls x.sg _ w (hx.mono hw))) ?_
      refine OW.q rfl rfl (yq_not rfl (by (conv => lhs; whnf) <;> rfl)) ?_
      refine OW.nil ?_
      refine hK8 _ _ ?_
      refine CW.cond (by (conv => lhs; whnf) <;> rfl) (fun hc1 => ?_) (fun hc1 => ?_)
      · have hno : ¬ x.sg.valid := by simpa using hc1
        rw [putR_not hno, putE_not hno]
        refine CW.seq_k fun K9 hK9 => ?_
        refine CW.region ?_
        refine OW.q rfl rfl (yq_move rfl (by (conv => lhs; whnf) <;> rfl)) ?_
        refine OW.q rfl rfl ((yq_eql_bs (a := []) (b := []) rfl (by (conv => lhs; whnf) <;> rfl) (by (conv => lhs; whnf) <;> rfl)).to (v' := .bool true) (by simp)) ?_
        refine OW.q rfl rfl (yq_move rfl (by (conv => lhs; whnf) <;> rfl)) ?_
        refine OW.q rfl rfl (yq_move rfl (by (conv => lhs; whnf) <;> rfl)) ?_
        refine OW.q rfl rfl ((yq_eql rfl (by (conv => lhs; whnf) <;> rfl) (by (conv => lhs; whnf) <;> rfl)).to (v' := .bool true) (rfl)) ?_
        refine OW.q rfl rfl (yq_pick rfl (by (conv => lhs; whnf) <;> rfl) (by (conv => lhs; whnf) <;> rfl)) ?_
        refine OW.q rfl rfl (yq_move rfl (by (conv => lhs; whnf) <;> rfl)) ?_
        refine OW.q rfl rfl (yq_call rfl rfl .nil en63 (fun w hw => headed_calls w (Cl_gl0 hw hg))) ?_
        refine OW.q rfl rfl (yq_pick rfl (by (conv => lhs; whnf) <;> rfl) (by (conv => lhs; whnf) <;> rfl)) ?_
        refine OW.q rfl rfl (yq_assign rfl (by (conv => lhs; whnf) <;> rfl)) ?_
        refine OW.nil ?_
        refine hK9 _ _ ?_
        refine CW.ret ?_
        refine then_ret ?_
        -- ret (ret)
        exact fin1 (Or.inr rfl) rfl ⟨by decide, (by (conv => lhs; whnf) <;> rfl)⟩ (fun w hw => ⟨rfl, hw.sub (List.nil_sublist _)⟩)
      · have hok : x.sg.valid := by simpa using hc1
        have hlen := headB_length hok
        have hT := getS_head hok
        have hcl : 0 < (headB x.sg).length := by omega
        rw [putR_ok hok, putE_ok hok]
        refine CW.skip ?_
        refine hK7 _ _ ?_
        refine CW.seq_k fun K10 hK10 => ?_
        refine CW.region ?_
        refine OW.q rfl rfl (yq_move rfl (by (conv => lhs; whnf) <;> rfl)) ?_
        refine OW.calln rfl rfl rfl (by (conv => lhs; whnf) <;> rfl) (.cons (by (conv => lhs; whnf) <;> rfl) .nil) en66 (fun w hw => get2_calls (headB x.sg) w (by omega)) ?_
        rw [(getR_some hT).1, (getR_some hT).2]
        rintro _ _ ⟨_, rfl, _, rfl, a10, c10, rfl, rfl⟩
        refine OW.q rfl rfl (yq_move rfl (by (conv => lhs; whnf) <;> rfl)) ?_
        refine OW.q rfl rfl (yq_extract rfl (by (conv => lhs; whnf) <;> rfl) rfl) ?_
        refine OW.q rfl rfl (yq_extract rfl (by (conv => lhs; whnf) <;> rfl) rfl) ?_
        refine OW.alloc rfl rfl rfl tz46 (fun b10 => ?_)
        refine OW.store' rfl rfl rfl (by (conv => lhs; whnf) <;> rfl) (by (conv => lhs; whnf) <;> rfl) (vs := sgC x.sg (rowV a10 x.sg.path.length c10)) (by rw [sgC_length]; exact ti46) rfl (sgC_one rfl) (by repeat' first | exact Put.head | apply Put.tail) (cs' := sgC x.sg (rowV a10 x.sg.path.length c10)) (spl_eqlen (by first | (simp only [sgC_length]; done) | (simp only [sgC_length]; rfl))) (by simp only [sgC_length]; exact Nat.le_of_ble_eq_true rfl) ?_
        refine OW.q rfl rfl (yq_assign rfl (by (conv => lhs; whnf) <;> rfl)) ?_
        refine OW.nil ?_
        refine hK10 _ _ ?_
        refine CW.seq_k fun K11 hK11 => ?_
        refine CW.seq_k fun K12 hK12 => ?_
        refine CW.region ?_
        refine OW.q rfl rfl (yq_move rfl (by (conv => lhs; whnf) <;> rfl)) ?_
        refine OW.q rfl rfl ((yq_neq rfl (by (conv => lhs; whnf) <;> rfl) (by (conv => lhs; whnf) <;> rfl)).to (v' := .bool false) (by simp)) ?_
        refine OW.q rfl rfl (yq_move rfl (by (conv => lhs; whnf) <;> rfl)) ?_
        refine OW.q rfl rfl (yq_move rfl (by (conv => lhs; whnf) <;> rfl)) ?_
        refine OW.q rfl rfl (yq_len_bs rfl tt9 (by (conv => lhs; whnf) <;> rfl)) ?_
        refine OW.q rfl rfl ((yq_leq rfl (by (conv => lhs; whnf) <;> rfl) (by (conv => lhs; whnf) <;> rfl)).to (v' := .bool false) (by rw [decide_eq_false]; omega)) ?_
        refine OW.q rfl rfl (yq_pick rfl (by (conv => lhs; whnf) <;> rfl) (by (conv => lhs; whnf) <;> rfl)) ?_
        refine OW.q rfl rfl (yq_move rfl (by (conv => lhs; whnf) <;> rfl)) ?_
        refine OW.q rfl rfl (yq_move rfl (by (conv => lhs; whnf) <;> rfl)) ?_
        refine OW.q rfl rfl ((yq_neq rfl (by (conv => lhs; whnf) <;> rfl) (by (conv => lhs; whnf) <;> rfl)).to (v' := .bool false) (by simp)) ?_
        refine OW.q rfl rfl (yq_pick rfl (by (conv => lhs; whnf) <;> rfl) (by (conv => lhs; whnf) <;> rfl)) ?_
        refine OW.q rfl rfl (yq_move rfl (by (conv => lhs; whnf) <;> rfl)) ?_
        refine OW.q rfl rfl (yq_loadW (cs := sgC x.sg (rowV a10 x.sg.path.length c10)) rfl (by (conv => lhs; whnf) <;> rfl) (by rw [sgC_length]; exact ti46) (by repeat' first | exact List.mem_cons_self .. | apply List.mem_cons_of_mem)) ?_
        refine OW.q rfl rfl (yq_loadW (cs := sgC x.sg (.slice ax x.path.length cx)) rfl (by (conv => lhs; whnf) <;> rfl) (by rw [sgC_length]; exact ti46) (by repeat' first | exact List.mem_cons_self .. | apply List.mem_cons_of_mem)) ?_
        refine OW.q rfl rfl ((yq_call rfl rfl (.cons (by (conv => lhs; whnf) <;> rfl) (.cons (by (conv => lhs; whnf) <;> rfl) .nil)) en68 (fun w hw => same3_calls x.sg x.sg _ _ w hpx (HsAt.row rfl (hw.own (.row a10 c10 x.sg.path.length 25 32 (x.sg.path.flatMap hc)) (by repeat' first | exact List.mem_cons_self .. | apply List.mem_cons_of_mem))) (hx.mono hw))).to (v' := .bool true) (by simp)) ?_
        refine OW.q rfl rfl (yq_not rfl (by (conv => lhs; whnf) <;> rfl)) ?_
        refine OW.q rfl rfl (yq_pick rfl (by (conv => lhs; whnf) <;> rfl) (by (conv => lhs; whnf) <;> rfl)) ?_
        refine OW.nil ?_
        refine hK12 _ _ ?_
        refine CW.cond_f (by (conv => lhs; whnf) <;> rfl) ?_
        refine CW.skip ?_
        refine hK11 _ _ ?_
        refine CW.seq_k fun K13 hK13 => ?_
        have hmod1 := Int.emod_nonneg C (show ((headB x.sg).length : Int) ≠ 0 by omega)
        have hmod2 := Int.emod_lt_of_pos C (show 0 < ((headB x.sg).length : Int) by omega)
        obtain ⟨k, hk⟩ : ∃ k : Nat, (k : Int) = C % ((headB x.sg).length : Int) := ⟨(C % ((headB x.sg).length : Int)).toNat, by omega⟩
        have hkl : k < (headB x.sg).length := by omega
        have hcut := getS_cut hok k hkl
        refine CW.region ?_
        refine OW.q rfl rfl (yq_move rfl (by (conv => lhs; whnf) <;> rfl)) ?_
        refine OW.q rfl rfl (yq_move rfl (by (conv => lhs; whnf) <;> rfl)) ?_
        refine OW.q rfl rfl (yq_conv_int (r := C) rfl Tryd.underlying39 Tryd.underlying3 (by (conv => lhs; whnf) <;> rfl) (wrap64_in (by omega))) ?_
        refine OW.q rfl rfl (yq_move rfl (by (conv => lhs; whnf) <;> rfl)) ?_
        refine OW.q rfl rfl (yq_len_bs rfl tt9 (by (conv => lhs; whnf) <;> rfl)) ?_
        refine OW.q rfl rfl ((yq_rem rfl (by (conv => lhs; whnf) <;> rfl) (by (conv => lhs; whnf) <;> rfl) (by omega)).to (v' := .int .i64 (k : Int)) (by rw [hk])) ?_
        refine OW.q rfl rfl (yq_slice_bs_to (h := k) rfl (by (conv => lhs; whnf) <;> rfl) tt9 (by exact ⟨_, _, (by (conv => lhs; whnf) <;> rfl), by omega, by omega⟩) (by omega)) ?_
        refine OW.calln rfl rfl rfl (by (conv => lhs; whnf) <;> rfl) (.cons (by (conv => lhs; whnf) <;> rfl) .nil) en66 (fun w hw => get2_calls ((headB x.sg).take k) w (by rw [List.length_take]; omega)) ?_
        rw [(getR_none hcut).1, (getR_none hcut).2]
        rintro _ _ ⟨_, rfl, _, rfl, a12, c12, rfl, rfl⟩
        refine OW.q rfl rfl (yq_move rfl (by (conv => lhs; whnf) <;> rfl)) ?_
        refine OW.q rfl rfl (yq_extract rfl (by (conv => lhs; whnf) <;> rfl) rfl) ?_
        refine OW.q rfl rfl (yq_extract rfl (by (conv => lhs; whnf) <;> rfl) rfl) ?_
        refine OW.alloc rfl rfl rfl tz46 (fun b12 => ?_)
        refine OW.store' rfl rfl rfl (by (conv => lhs; whnf) <;> rfl) (by (conv => lhs; whnf) <;> rfl) (vs := sgC Sg.none (rowV a12 0 c12)) (by rw [sgC_length]; exact ti46) rfl (sgC_one rfl) (by repeat' first | exact Put.head | apply Put.tail) (cs' := sgC Sg.none (rowV a12 0 c12)) (spl_eqlen (by first | (simp only [sgC_length]; done) | (simp only [sgC_length]; rfl))) (by simp only [sgC_length]; exact Nat.le_of_ble_eq_true rfl) ?_
        refine OW.q rfl rfl (yq_assign rfl (by (conv => lhs; whnf) <;> rfl)) ?_
        refine OW.nil ?_
        refine hK13 _ _ ?_
        refine CW.seq_k fun K14 hK14 => ?_
        refine CW.region ?_
        refine OW.q rfl rfl (yq_move rfl (by (conv => lhs; whnf) <;> rfl)) ?_
        refine OW.q rfl rfl (yq_move rfl (by (conv => lhs; whnf) <;> rfl)) ?_
        refine OW.q rfl rfl (yq_add_bs rfl (by (conv => lhs; whnf) <;> rfl) (by (conv => lhs; whnf) <;> rfl) (by omega)) ?_
        refine OW.calln rfl rfl rfl (by (conv => lhs; whnf) <;> rfl) (.cons (by (conv => lhs; whnf) <;> rfl) .nil) en66 (fun w hw => get2_calls (headB x.sg ++ bh) w (by rw [List.length_append]; omega)) ?_
        rintro _ _ ⟨_, rfl, _, rfl, a14, c14, rfl, rfl⟩
        refine OW.q rfl rfl (yq_move rfl (by (conv => lhs; whnf) <;> rfl)) ?_
        refine OW.q rfl rfl (yq_extract rfl (by (conv => lhs; whnf) <;> rfl) rfl) ?_
        refine OW.q rfl rfl (yq_extract rfl (by (conv => lhs; whnf) <;> rfl) rfl) ?_
        refine OW.alloc rfl rfl rfl tz46 (fun b14 => ?_)
        refine OW.store' rfl rfl rfl (by (conv => lhs; whnf) <;> rfl) (by (conv => lhs; whnf) <;> rfl) (vs := sgC (getR (headB x.sg ++ bh)) (rowV a14 (getR (headB x.sg ++ bh)).path.length c14)) (by rw [sgC_length]; exact ti46) rfl (sgC_one rfl) (by repeat' first | exact Put.head | apply Put.tail) (cs' := sgC (getR (headB x.sg ++ bh)) (rowV a14 (getR (headB x.sg ++ bh)).path.length c14)) (spl_eqlen (by first | (simp only [sgC_length]; done) | (simp only [sgC_length]; rfl))) (by simp only [sgC_length]; exact Nat.le_of_ble_eq_true rfl) ?_
        refine OW.q rfl rfl (yq_assign rfl (by (conv => lhs; whnf) <;> rfl)) ?_
        refine OW.nil ?_
        refine hK14 _ _ ?_
        refine CW.seq_k fun K15 hK15 => ?_
        have hA : (getI (headB x.sg ++ bh) = 0) ↔ bh = [] := by
          by_cases hb : bh = []
          · subst hb
            rw [List.append_nil, (getR_some hT).2]
            simp
          · rw [(getR_none (getS_behind hok bh hb)).2]
            simp [hb]
        have hB : (getR (headB x.sg ++ bh) = x.sg) ↔ bh = [] := by
          by_cases hb : bh = []
          · subst hb
            rw [List.append_nil, (getR_some hT).1]
            simp
          · rw [(getR_none (getS_behind hok bh hb)).1]
            simp only [hb, iff_false]
            intro h
            rw [← h] at hok
            exact nosig rfl hok
        have hpl : (getR (headB x.sg ++ bh)).path.length ≤ 4294967296 := by
          by_cases hb : bh = []
          · rw [hB.2 hb]; exact hpx
          · rw [(getR_none (getS_behind hok bh hb)).1]; decide
        refine CW.region ?_
        refine OW.q rfl rfl (yq_move rfl (by (conv => lhs; whnf) <;> rfl)) ?_
        refine OW.q rfl rfl ((yq_eql rfl (by (conv => lhs; whnf) <;> rfl) (by (conv => lhs; whnf) <;> rfl)).to (v' := .bool true) (rfl)) ?_
        refine OW.q rfl rfl (yq_move rfl (by (conv => lhs; whnf) <;> rfl)) ?_
        refine OW.q rfl rfl (yq_loadW (cs := sgC Sg.none (rowV a12 0 c12)) rfl (by (conv => lhs; whnf) <;> rfl) (by rw [sgC_length]; exact ti46) (by repeat' first | exact List.mem_cons_self .. | apply List.mem_cons_of_mem)) ?_
        refine OW.q rfl rfl (yq_build (parts := []) (pv := []) (cs := sgC Sg.none (.slice none 0 0)) rfl rfl built46e) ?_
        refine OW.q rfl rfl ((yq_call rfl rfl (.cons (by (conv => lhs; whnf) <;> rfl) (.cons (by (conv => lhs; whnf) <;> rfl) .nil)) en68 (fun w hw => same3_calls Sg.none Sg.none _ _ w (by decide) (HsAt.row rfl (hw.own (.row a12 c12 0 25 32 ([].flatMap hc)) (by repeat' first | exact List.mem_cons_self .. | apply List.mem_cons_of_mem))) ⟨none, 0, rfl, Nat.le_refl _, .inl rfl⟩)).to (v' := .bool true) (by simp)) ?_
        refine OW.q rfl rfl (yq_pick rfl (by (conv => lhs; whnf) <;> rfl) (by (conv => lhs; whnf) <;> rfl)) ?_
        refine OW.q rfl rfl (yq_move rfl (by (conv => lhs; whnf) <;> rfl)) ?_
        refine OW.q rfl rfl (yq_move rfl (by (conv => lhs; whnf) <;> rfl)) ?_
        refine OW.qb rfl rfl (yq_eql rfl (by (conv => lhs; whnf) <;> rfl) (by (conv => lhs; whnf) <;> rfl)) (fun b92 hb92 => ?_)
        refine OW.q rfl rfl (yq_move rfl (by (conv => lhs; whnf) <;> rfl)) ?_
        refine OW.qb rfl rfl (yq_eql_bs (a := bh) (b := []) rfl (by (conv => lhs; whnf) <;> rfl) (by (conv => lhs; whnf) <;> rfl)) (fun b94 hb94 => ?_)
        refine OW.q rfl rfl ((yq_eql_bool rfl (by (conv => lhs; whnf) <;> rfl) (by (conv => lhs; whnf) <;> rfl) Tryd.underlying4).to (v' := .bool true) (by exact congrArg Value.bool (decide_eq_true (Bool.eq_iff_iff.2 (hb92.trans (hA.trans hb94.symm)))))) ?_
        refine OW.q rfl rfl (yq_pick rfl (by (conv => lhs; whnf) <;> rfl) (by (conv => lhs; whnf) <;> rfl)) ?_
        refine OW.q rfl rfl (yq_move rfl (by (conv => lhs; whnf) <;> rfl)) ?_
        refine OW.q rfl rfl (yq_loadW (cs := sgC (getR (headB x.sg ++ bh)) (rowV a14 (getR (headB x.sg ++ bh)).path.length c14)) rfl (by (conv => lhs; whnf) <;> rfl) (by rw [sgC_length]; exact ti46) (by repeat' first | exact List.mem_cons_self .. | apply List.mem_cons_of_mem)) ?_
        refine OW.q rfl rfl (yq_loadW (cs := sgC x.sg (.slice ax x.path.length cx)) rfl (by (conv => lhs; whnf) <;> rfl) (by rw [sgC_length]; exact ti46) (by repeat' first | exact List.mem_cons_self .. | apply List.mem_cons_of_mem)) ?_
        refine OW.qb rfl rfl (yq_call rfl rfl (.cons (by (conv => lhs; whnf) <;> rfl) (.cons (by (conv => lhs; whnf) <;> rfl) .nil)) en68 (fun w hw => same3_calls (getR (headB x.sg ++ bh)) x.sg _ _ w hpl (HsAt.row rfl (hw.own (.row a14 c14 (getR (headB x.sg ++ bh)).path.length 25 32 ((getR (headB x.sg ++ bh)).path.flatMap hc)) (by repeat' first | exact List.mem_cons_self .. | apply List.mem_cons_of_mem))) (hx.mono hw))) (fun b100 hb100 => ?_)
        refine OW.q rfl rfl (yq_move rfl (by (conv => lhs; whnf) <;> rfl)) ?_
        refine OW.qb rfl rfl (yq_eql_bs (a := bh) (b := []) rfl (by (conv => lhs; whnf) <;> rfl) (by (conv => lhs; whnf) <;> rfl)) (fun b102 hb102 => ?_)
        refine OW.q rfl rfl ((yq_eql_bool rfl (by (conv => lhs; whnf) <;> rfl) (by (conv => lhs; whnf) <;> rfl) Tryd.underlying4).to (v' := .bool true) (by exact congrArg Value.bool (decide_eq_true (Bool.eq_iff_iff.2 (hb100.trans (hB.trans hb102.symm)))))) ?_
        refine OW.q rfl rfl (yq_pick rfl (by (conv => lhs; whnf) <;> rfl) (by (conv => lhs; whnf) <;> rfl)) ?_
        refine OW.q rfl rfl (yq_move rfl (by (conv => lhs; whnf) <;> rfl)) ?_
        refine OW.q rfl rfl (yq_call rfl rfl .nil en63 (fun w hw => headed_calls w (Cl_gl0 hw hg))) ?_
        refine OW.q rfl rfl (yq_pick rfl (by (conv => lhs; whnf) <;> rfl) (by (conv => lhs; whnf) <;> rfl)) ?_
        refine OW.q rfl rfl (yq_assign rfl (by (conv => lhs; whnf) <;> rfl)) ?_
        refine OW.nil ?_
        refine hK15 _ _ ?_
        refine CW.ret ?_
        -- ret (ret)
        exact fin1 (Or.inr rfl) rfl ⟨by decide, (by (conv => lhs; whnf) <;> rfl)⟩ (fun w hw => ⟨rfl, hw.sub (List.nil_sublist _)⟩)
end Go.Proofs.YtahdekllphehkaaDoor
