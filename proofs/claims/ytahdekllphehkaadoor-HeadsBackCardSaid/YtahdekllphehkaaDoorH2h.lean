/- Heads: what is signed, whether they may be, how they stand; no statement of the seat is proved here. -/
import Derived.Test.YtahdekllphehkaaDoorH1h
set_option linter.unusedVariables false
set_option linter.unusedSimpArgs false
namespace Go.Proofs.YtahdekllphehkaaDoor
open Go.WL Go.Spec
/-- What is signed of a head, whatever its size. -/
def digestI (m : Int) (g : Hash) : Hash := sha ([5] ++ putB (UInt64.ofNat (m % 18446744073709551616).toNat) 8 ++ hb g)
theorem digestI_eq {m : Int} {g : Hash} (h0 : 0 ≤ m) (h1 : m < 18446744073709551616) : digestI m g = digestL m g := by
  rw [digestL_eq]; unfold digestI; rw [Int.emod_eq_of_lt h0 h1]
theorem u64_wrap (m : Int) : IntKind.u64.wrap m = ((UInt64.ofNat (m % 18446744073709551616).toNat).toNat : Int) := by
  rw [wrap_u64, u64_nat (by omega)]
  omega
set_option maxRecDepth 100000 in
set_option maxHeartbeats 1000000 in
theorem digest_calls (m : Int) (g : Hash) (w : World) (hg : GL w) :
    Calls Tryd.prog 80 #[HdV m g] w fun e w' => e = .returned (HV (digestI m g)) ∧ Cl w [] [] w' := by
  have hpl := putB_length (UInt64.ofNat (m % 18446744073709551616).toNat) 8
  refine calls_of_CW (L := []) Tryd.func80 rfl (Nat.le_of_ble_eq_true rfl) (Cl.refl _) ?_
  refine CW.seq_k fun K1 hK1 => ?_
  refine CW.region ?_
  refine OW.box (cs := headC m g) rfl rfl rfl (by (conv => lhs; whnf) <;> rfl) rfl (fun b1 => ?_)
  refine OW.alloc rfl rfl rfl tz25 (fun b2 => ?_)
  refine OW.nil ?_
  refine hK1 _ _ ?_
  refine CW.seq_k fun K2 hK2 => ?_
  refine CW.drawT 10 mixed (by kernel_rfl) ?_
  refine QW.q rfl rfl (yq_fieldAddr rfl (by (conv => lhs; whnf) <;> rfl) tf33_0 ti3) ?_
  refine QW.q rfl rfl (yq_load1 rfl (by (conv => lhs; whnf) <;> rfl) ti3 (by repeat' first | exact List.mem_cons_self .. | apply List.mem_cons_of_mem) (hd_0 m g)) ?_
  refine QW.q rfl rfl ((yq_conv_int (r := ((UInt64.ofNat (m % 18446744073709551616).toNat).toNat : Int)) rfl Tryd.underlying3 Tryd.underlying147 (by (conv => lhs; whnf) <;> rfl) (u64_wrap m))) ?_
  refine QW.q rfl rfl (yq_call rfl rfl (.cons (by (conv => lhs; whnf) <;> rfl) ( .cons (by (conv => lhs; whnf) <;> rfl) .nil)) en125 (fun w hw => put_calls (UInt64.ofNat (m % 18446744073709551616).toNat) 8 w (by decide) (by decide))) ?_
  refine QW.q rfl rfl (yq_add_bs (a := [5]) rfl (by (conv => lhs; whnf) <;> rfl) (by (conv => lhs; whnf) <;> rfl) (by simp only [List.length_singleton]; omega)) ?_
  refine QW.q rfl rfl (yq_fieldAddr rfl (by (conv => lhs; whnf) <;> rfl) tf33_1 ti25) ?_
  refine QW.q rfl rfl (yq_loadA (vs := hc g) rfl (by (conv => lhs; whnf) <;> rfl) (by rw [hc_length]; exact ti25) (by repeat' first | exact List.mem_cons_self .. | apply List.mem_cons_of_mem) (fun j u hu => hd_root m g j u hu)) ?_
  refine QW.q rfl rfl (yq_call rfl rfl (.cons (by (conv => lhs; whnf) <;> rfl) .nil) en103 (fun w hw => hash_calls _ w)) ?_
  refine QW.q rfl rfl (yq_add_bs rfl (by (conv => lhs; whnf) <;> rfl) (by (conv => lhs; whnf) <;> rfl) (by simp only [List.length_append, List.length_singleton, hb_length]; omega)) ?_
  refine QW.q rfl rfl (yq_call rfl rfl (.cons (by (conv => lhs; whnf) <;> rfl) .nil) en100 (fun w hw => sum_calls _ w (by simp only [List.length_append, List.length_singleton, hb_length]; omega) (Cl_gl0 hw hg))) ?_
  refine QW.nil ?_
  refine OW.storeH rfl rfl rfl (by (conv => lhs; whnf) <;> rfl) (by (conv => lhs; whnf) <;> rfl) ti25 (by repeat' first | exact Put.head | apply Put.tail) (hc_length _) ?_
  refine OW.nil ?_
  refine hK2 _ _ ?_
  refine CW.ret ?_
  -- ret (ret)
  unfold digestI
  exact fin1 (Or.inr rfl) rfl (rv_hash (by decide) (by (conv => lhs; whnf) <;> rfl) ti25 (by repeat' first | exact List.mem_cons_self .. | apply List.mem_cons_of_mem)) (fun w hw => ⟨rfl, hw.sub (List.nil_sublist _)⟩)
set_option maxRecDepth 100000 in
set_option maxHeartbeats 1000000 in
theorem refdigest_calls (m : Int) (g : Hash) (w : World) :
    Calls Tryd.prog 81 #[HdV m g] w fun e w' => e = .returned (HV (digestI m g)) ∧ Cl w [] [] w' := by
  have hpl := putB_length (UInt64.ofNat (m % 18446744073709551616).toNat) 8
  refine calls_of_CW (L := []) Tryd.func81 rfl (Nat.le_of_ble_eq_true rfl) (Cl.refl _) ?_
  refine CW.seq_k fun K1 hK1 => ?_
  refine CW.region ?_
  refine OW.box (cs := headC m g) rfl rfl rfl (by (conv => lhs; whnf) <;> rfl) rfl (fun b1 => ?_)
  refine OW.alloc rfl rfl rfl tz25 (fun b2 => ?_)
  refine OW.nil ?_
  refine hK1 _ _ ?_
  refine CW.seq_k fun K2 hK2 => ?_
  refine CW.drawT 10 mixed (by kernel_rfl) ?_
  refine QW.q rfl rfl (yq_fieldAddr rfl (by (conv => lhs; whnf) <;> rfl) tf33_0 ti3) ?_
  refine QW.q rfl rfl (yq_load1 rfl (by (conv => lhs; whnf) <;> rfl) ti3 (by repeat' first | exact List.mem_cons_self .. | apply List.mem_cons_of_mem) (hd_0 m g)) ?_
  refine QW.q rfl rfl ((yq_conv_int (r := ((UInt64.ofNat (m % 18446744073709551616).toNat).toNat : Int)) rfl Tryd.underlying3 Tryd.underlying147 (by (conv => lhs; whnf) <;> rfl) (u64_wrap m))) ?_
  refine QW.q rfl rfl (yq_call rfl rfl (.cons (by (conv => lhs; whnf) <;> rfl) ( .cons (by (conv => lhs; whnf) <;> rfl) .nil)) en127 (fun w hw => refput_calls (UInt64.ofNat (m % 18446744073709551616).toNat) 8 w (by decide))) ?_
  refine QW.q rfl rfl (yq_add_bs (a := [5]) rfl (by (conv => lhs; whnf) <;> rfl) (by (conv => lhs; whnf) <;> rfl) (by simp only [List.length_singleton]; omega)) ?_
  refine QW.q rfl rfl (yq_fieldAddr rfl (by (conv => lhs; whnf) <;> rfl) tf33_1 ti25) ?_
  refine QW.q rfl rfl (yq_loadA (vs := hc g) rfl (by (conv => lhs; whnf) <;> rfl) (by rw [hc_length]; exact ti25) (by repeat' first | exact List.mem_cons_self .. | apply List.mem_cons_of_mem) (fun j u hu => hd_root m g j u hu)) ?_
  refine QW.q rfl rfl (yq_call rfl rfl (.cons (by (conv => lhs; whnf) <;> rfl) .nil) en114 (fun w hw => refhash_calls _ w)) ?_
  refine QW.q rfl rfl (yq_add_bs rfl (by (conv => lhs; whnf) <;> rfl) (by (conv => lhs; whnf) <;> rfl) (by simp only [List.length_append, List.length_singleton, hb_length]; omega)) ?_
  refine QW.q rfl rfl (yq_call rfl rfl (.cons (by (conv => lhs; whnf) <;> rfl) .nil) en102 (fun w hw => refsum_calls _ w (by simp only [List.length_append, List.length_singleton, hb_length]; omega))) ?_
  refine QW.nil ?_
  refine OW.storeH rfl rfl rfl (by (conv => lhs; whnf) <;> rfl) (by (conv => lhs; whnf) <;> rfl) ti25 (by repeat' first | exact Put.head | apply Put.tail) (hc_length _) ?_
  refine OW.nil ?_
  refine hK2 _ _ ?_
  refine CW.ret ?_
  -- ret (ret)
  unfold digestI
  exact fin1 (Or.inr rfl) rfl (rv_hash (by decide) (by (conv => lhs; whnf) <;> rfl) ti25 (by repeat' first | exact List.mem_cons_self .. | apply List.mem_cons_of_mem)) (fun w hw => ⟨rfl, hw.sub (List.nil_sublist _)⟩)
set_option maxRecDepth 100000 in
set_option maxHeartbeats 1000000 in
theorem valid_calls (s : Sg) (v : Value) (w : World) (hs : HsAt w v s.path) :
    Calls Tryd.prog 70 #[SgV s v] w fun e w' => e = .returned (.bool (decide s.valid)) ∧ Cl w [] [] w' := by
  have hs0 := hs
  obtain ⟨a0, cap0, rfl⟩ := hs0.len
  refine calls_of_CW (L := []) Tryd.func70 rfl (Nat.le_of_ble_eq_true rfl) (Cl.refl _) ?_
  refine CW.seq_k fun K1 hK1 => ?_
  refine CW.region ?_
  refine OW.box (cs := sgC s (.slice a0 s.path.length cap0)) rfl rfl rfl (by (conv => lhs; whnf) <;> rfl) rfl (fun b1 => ?_)
  refine OW.q rfl rfl (yq_assign rfl (by (conv => lhs; whnf) <;> rfl)) ?_
  refine OW.nil ?_
  refine hK1 _ _ ?_
  refine CW.seq_k fun K2 hK2 => ?_
  refine CW.region ?_
  refine OW.q rfl rfl (yq_fieldAddr rfl (by (conv => lhs; whnf) <;> rfl) tf46_0 ti33) ?_
  refine OW.q rfl rfl (yq_fieldAddr rfl (by (conv => lhs; whnf) <;> rfl) tf33_0 ti3) ?_
  refine OW.q rfl rfl (yq_load1 rfl (by (conv => lhs; whnf) <;> rfl) ti3 (by repeat' first | exact List.mem_cons_self .. | apply List.mem_cons_of_mem) (sg_0 s (.slice a0 s.path.length cap0))) ?_
  refine OW.qb rfl rfl (yq_geq rfl (by (conv => lhs; whnf) <;> rfl) (by (conv => lhs; whnf) <;> rfl)) (fun b7 hb7 => ?_)
  refine OW.q rfl rfl (yq_move rfl (by (conv => lhs; whnf) <;> rfl)) ?_
  apply OW.segAnd 5 [9, 10, 11, 12] 13 hb7
  · intro hb7e
    refine QW.q (by subst hb7e; rfl) rfl (yq_fieldAddr rfl (by (conv => lhs; whnf) <;> rfl) tf46_0 ti33) ?_
    refine QW.q (by subst hb7e; rfl) rfl (yq_fieldAddr rfl (by (conv => lhs; whnf) <;> rfl) tf33_0 ti3) ?_
    refine QW.q (by subst hb7e; rfl) rfl (yq_load1 rfl (by (conv => lhs; whnf) <;> rfl) ti3 (by repeat' first | exact List.mem_cons_self .. | apply List.mem_cons_of_mem) (sg_0 s (.slice a0 s.path.length cap0))) ?_
    refine QW.qb (by subst hb7e; rfl) rfl (yq_leq rfl (by (conv => lhs; whnf) <;> rfl) (by (conv => lhs; whnf) <;> rfl)) (fun b12 hb12 => ?_)
    refine QW.q rfl rfl (yq_pick rfl (by (conv => lhs; whnf) <;> rfl) (by subst hb7e; ((conv => lhs; whnf) <;> rfl))) ?_
    exact QW.nil (SegM.mk (any_c (any_c (any_c (any_c any_n)))) (and_run hb7 hb7e hb12))
  · intro hb7e
    refine QW.skip (by subst hb7e; rfl) rfl ?_
    refine QW.skip (by subst hb7e; rfl) rfl ?_
    refine QW.skip (by subst hb7e; rfl) rfl ?_
    refine QW.skip (by subst hb7e; rfl) rfl ?_
    refine QW.q rfl rfl (yq_pick rfl (by (conv => lhs; whnf) <;> rfl) (by subst hb7e; ((conv => lhs; whnf) <;> rfl))) ?_
    exact QW.nil (SegM.mk (any_c (any_c (any_c (any_c any_n)))) (and_skip hb7 hb7e))
  · intro ρ13 b13 hA hb13
    obtain ⟨x9, x10, x11, x12, rfl⟩ := hA
    refine OW.q rfl rfl (yq_assign rfl (by (conv => lhs; whnf) <;> rfl)) ?_
    refine OW.nil ?_
    refine hK2 _ _ ?_
    refine CW.seq_k fun K3 hK3 => ?_
    refine CW.region ?_
    refine OW.q rfl rfl (yq_move rfl (by (conv => lhs; whnf) <;> rfl)) ?_
    refine OW.q rfl rfl (yq_move rfl (by (conv => lhs; whnf) <;> rfl)) ?_
    apply OW.segAnd 5 [16, 17, 18, 19] 20 hb13
    · intro hb13e
      refine QW.q (by subst hb13e; rfl) rfl (yq_fieldAddr rfl (by (conv => lhs; whnf) <;> rfl) tf46_1 ti44) ?_
      refine QW.q (by subst hb13e; rfl) rfl (yq_fieldAddr rfl (by (conv => lhs; whnf) <;> rfl) tf44_0 ti3) ?_
      refine QW.q (by subst hb13e; rfl) rfl (yq_load1 rfl (by (conv => lhs; whnf) <;> rfl) ti3 (by repeat' first | exact List.mem_cons_self .. | apply List.mem_cons_of_mem) (sg_33 s (.slice a0 s.path.length cap0))) ?_
      refine QW.qb (by subst hb13e; rfl) rfl (yq_geq rfl (by (conv => lhs; whnf) <;> rfl) (by (conv => lhs; whnf) <;> rfl)) (fun b19 hb19 => ?_)
      refine QW.q rfl rfl (yq_pick rfl (by (conv => lhs; whnf) <;> rfl) (by subst hb13e; ((conv => lhs; whnf) <;> rfl))) ?_
      exact QW.nil (SegM.mk (any_c (any_c (any_c (any_c any_n)))) (and_run hb13 hb13e hb19))
    · intro hb13e
      refine QW.skip (by subst hb13e; rfl) rfl ?_
      refine QW.skip (by subst hb13e; rfl) rfl ?_
      refine QW.skip (by subst hb13e; rfl) rfl ?_
      refine QW.skip (by subst hb13e; rfl) rfl ?_
      refine QW.q rfl rfl (yq_pick rfl (by (conv => lhs; whnf) <;> rfl) (by subst hb13e; ((conv => lhs; whnf) <;> rfl))) ?_
      exact QW.nil (SegM.mk (any_c (any_c (any_c (any_c any_n)))) (and_skip hb13 hb13e))
    · intro ρ20 b20 hA hb20
      obtain ⟨x16, x17, x18, x19, rfl⟩ := hA
      refine OW.q rfl rfl (yq_move rfl (by (conv => lhs; whnf) <;> rfl)) ?_
      apply OW.segAnd 5 [22, 23, 24, 25] 26 hb20
      · intro hb20e
        refine QW.q (by subst hb20e; rfl) rfl (yq_fieldAddr rfl (by (conv => lhs; whnf) <;> rfl) tf46_1 ti44) ?_
        refine QW.q (by subst hb20e; rfl) rfl (yq_fieldAddr rfl (by (conv => lhs; whnf) <;> rfl) tf44_0 ti3) ?_
        refine QW.q (by subst hb20e; rfl) rfl (yq_load1 rfl (by (conv => lhs; whnf) <;> rfl) ti3 (by repeat' first | exact List.mem_cons_self .. | apply List.mem_cons_of_mem) (sg_33 s (.slice a0 s.path.length cap0))) ?_
        refine QW.qb (by subst hb20e; rfl) rfl (yq_lss rfl (by (conv => lhs; whnf) <;> rfl) (by (conv => lhs; whnf) <;> rfl)) (fun b25 hb25 => ?_)
        refine QW.q rfl rfl (yq_pick rfl (by (conv => lhs; whnf) <;> rfl) (by subst hb20e; ((conv => lhs; whnf) <;> rfl))) ?_
        exact QW.nil (SegM.mk (any_c (any_c (any_c (any_c any_n)))) (and_run hb20 hb20e hb25))
      · intro hb20e
        refine QW.skip (by subst hb20e; rfl) rfl ?_
        refine QW.skip (by subst hb20e; rfl) rfl ?_
        refine QW.skip (by subst hb20e; rfl) rfl ?_
        refine QW.skip (by subst hb20e; rfl) rfl ?_
        refine QW.q rfl rfl (yq_pick rfl (by (conv => lhs; whnf) <;> rfl) (by subst hb20e; ((conv => lhs; whnf) <;> rfl))) ?_
        exact QW.nil (SegM.mk (any_c (any_c (any_c (any_c any_n)))) (and_skip hb20 hb20e))
      · intro ρ26 b26 hA hb26
        obtain ⟨x22, x23, x24, x25, rfl⟩ := hA
        refine OW.q rfl rfl (yq_move rfl (by (conv => lhs; whnf) <;> rfl)) ?_
        apply OW.segAnd 6 [28, 29, 30, 31, 32] 33 hb26
        · intro hb26e
          refine QW.q (by subst hb26e; rfl) rfl (yq_fieldAddr rfl (by (conv => lhs; whnf) <;> rfl) tf46_1 ti44) ?_
          refine QW.q (by subst hb26e; rfl) rfl (yq_fieldAddr rfl (by (conv => lhs; whnf) <;> rfl) tf44_1 ti9) ?_
          refine QW.q (by subst hb26e; rfl) rfl (yq_load1 rfl (by (conv => lhs; whnf) <;> rfl) ti9 (by repeat' first | exact List.mem_cons_self .. | apply List.mem_cons_of_mem) (sg_34 s (.slice a0 s.path.length cap0))) ?_
          refine QW.q (by subst hb26e; rfl) rfl (yq_len_bs rfl tt9 (by (conv => lhs; whnf) <;> rfl)) ?_
          refine QW.qb (by subst hb26e; rfl) rfl (yq_eql rfl (by (conv => lhs; whnf) <;> rfl) (by (conv => lhs; whnf) <;> rfl)) (fun b32 hb32 => ?_)
          refine QW.q rfl rfl (yq_pick rfl (by (conv => lhs; whnf) <;> rfl) (by subst hb26e; ((conv => lhs; whnf) <;> rfl))) ?_
          exact QW.nil (SegM.mk (any_c (any_c (any_c (any_c (any_c any_n))))) (and_run hb26 hb26e hb32))
        · intro hb26e
          refine QW.skip (by subst hb26e; rfl) rfl ?_
          refine QW.skip (by subst hb26e; rfl) rfl ?_
          refine QW.skip (by subst hb26e; rfl) rfl ?_
          refine QW.skip (by subst hb26e; rfl) rfl ?_
          refine QW.skip (by subst hb26e; rfl) rfl ?_
          refine QW.q rfl rfl (yq_pick rfl (by (conv => lhs; whnf) <;> rfl) (by subst hb26e; ((conv => lhs; whnf) <;> rfl))) ?_
          exact QW.nil (SegM.mk (any_c (any_c (any_c (any_c (any_c any_n))))) (and_skip hb26 hb26e))
        · intro ρ33 b33 hA hb33
          obtain ⟨x28, x29, x30, x31, x32, rfl⟩ := hA
          refine OW.q rfl rfl (yq_move rfl (by (conv => lhs; whnf) <;> rfl)) ?_
          apply OW.segAnd 6 [35, 36, 37, 38, 39] 40 hb33
          · intro hb33e
            refine QW.q (by subst hb33e; rfl) rfl (yq_fieldAddr rfl (by (conv => lhs; whnf) <;> rfl) tf46_1 ti44) ?_
            refine QW.q (by subst hb33e; rfl) rfl (yq_fieldAddr rfl (by (conv => lhs; whnf) <;> rfl) tf44_2 ti22) ?_
            refine QW.q (by subst hb33e; rfl) rfl (yq_load1 rfl (by (conv => lhs; whnf) <;> rfl) ti22 (by repeat' first | exact List.mem_cons_self .. | apply List.mem_cons_of_mem) (sg_35 s (.slice a0 s.path.length cap0))) ?_
            refine QW.q (by subst hb33e; rfl) rfl (yq_len_slice rfl ts22 (by (conv => lhs; whnf) <;> rfl)) ?_
            refine QW.qb (by subst hb33e; rfl) rfl (yq_eql rfl (by (conv => lhs; whnf) <;> rfl) (by (conv => lhs; whnf) <;> rfl)) (fun b39 hb39 => ?_)
            refine QW.q rfl rfl (yq_pick rfl (by (conv => lhs; whnf) <;> rfl) (by subst hb33e; ((conv => lhs; whnf) <;> rfl))) ?_
            exact QW.nil (SegM.mk (any_c (any_c (any_c (any_c (any_c any_n))))) (and_run hb33 hb33e hb39))
          · intro hb33e
            refine QW.skip (by subst hb33e; rfl) rfl ?_
            refine QW.skip (by subst hb33e; rfl) rfl ?_
            refine QW.skip (by subst hb33e; rfl) rfl ?_
            refine QW.skip (by subst hb33e; rfl) rfl ?_
            refine QW.skip (by subst hb33e; rfl) rfl ?_
            refine QW.q rfl rfl (yq_pick rfl (by (conv => lhs; whnf) <;> rfl) (by subst hb33e; ((conv => lhs; whnf) <;> rfl))) ?_
            exact QW.nil (SegM.mk (any_c (any_c (any_c (any_c (any_c any_n))))) (and_skip hb33 hb33e))
          · intro ρ40 b40 hA hb40
            obtain ⟨x35, x36, x37, x38, x39, rfl⟩ := hA
            refine OW.q rfl rfl (yq_assign rfl (by (conv => lhs; whnf) <;> rfl)) ?_
            refine OW.nil ?_
            refine hK3 _ _ ?_
            refine CW.ret ?_
            -- ret (ret)
            have hbe : b40 = decide s.valid := Bool.eq_iff_iff.2 (by rw [hb40, decide_eq_true_iff]; unfold Sg.valid; omega)
            subst hbe
            exact fin1 (Or.inr rfl) rfl ⟨by decide, (by (conv => lhs; whnf) <;> rfl)⟩ (fun w hw => ⟨rfl, hw.sub (List.nil_sublist _)⟩)
set_option maxRecDepth 100000 in
set_option maxHeartbeats 1000000 in
theorem refvalid_calls (s : Sg) (v : Value) (w : World) (hs : HsAt w v s.path) :
    Calls Tryd.prog 82 #[SgV s v] w fun e w' => e = .returned (.bool (decide s.valid)) ∧ Cl w [] [] w' := by
  have hs0 := hs
  obtain ⟨a0, cap0, rfl⟩ := hs0.len
  refine calls_of_CW (L := []) Tryd.func82 rfl (Nat.le_of_ble_eq_true rfl) (Cl.refl _) ?_
  refine CW.seq_k fun K1 hK1 => ?_
  refine CW.region ?_
  refine OW.box (cs := sgC s (.slice a0 s.path.length cap0)) rfl rfl rfl (by (conv => lhs; whnf) <;> rfl) rfl (fun b1 => ?_)
  refine OW.q rfl rfl (yq_assign rfl (by (conv => lhs; whnf) <;> rfl)) ?_
  refine OW.nil ?_
  refine hK1 _ _ ?_
  refine CW.seq_k fun K2 hK2 => ?_
  refine CW.region ?_
  refine OW.q rfl rfl (yq_fieldAddr rfl (by (conv => lhs; whnf) <;> rfl) tf46_0 ti33) ?_
  refine OW.q rfl rfl (yq_fieldAddr rfl (by (conv => lhs; whnf) <;> rfl) tf33_0 ti3) ?_
  refine OW.q rfl rfl (yq_load1 rfl (by (conv => lhs; whnf) <;> rfl) ti3 (by repeat' first | exact List.mem_cons_self .. | apply List.mem_cons_of_mem) (sg_0 s (.slice a0 s.path.length cap0))) ?_
  refine OW.qb rfl rfl (yq_geq rfl (by (conv => lhs; whnf) <;> rfl) (by (conv => lhs; whnf) <;> rfl)) (fun b6 hb6 => ?_)
  refine OW.q rfl rfl (yq_move rfl (by (conv => lhs; whnf) <;> rfl)) ?_
  apply OW.segAnd 5 [8, 9, 10, 11] 12 hb6
  · intro hb6e
    refine QW.q (by subst hb6e; rfl) rfl (yq_fieldAddr rfl (by (conv => lhs; whnf) <;> rfl) tf46_0 ti33) ?_
    refine QW.q (by subst hb6e; rfl) rfl (yq_fieldAddr rfl (by (conv => lhs; whnf) <;> rfl) tf33_0 ti3) ?_
    refine QW.q (by subst hb6e; rfl) rfl (yq_load1 rfl (by (conv => lhs; whnf) <;> rfl) ti3 (by repeat' first | exact List.mem_cons_self .. | apply List.mem_cons_of_mem) (sg_0 s (.slice a0 s.path.length cap0))) ?_
    refine QW.qb (by subst hb6e; rfl) rfl (yq_leq rfl (by (conv => lhs; whnf) <;> rfl) (by (conv => lhs; whnf) <;> rfl)) (fun b11 hb11 => ?_)
    refine QW.q rfl rfl (yq_pick rfl (by (conv => lhs; whnf) <;> rfl) (by subst hb6e; ((conv => lhs; whnf) <;> rfl))) ?_
    exact QW.nil (SegM.mk (any_c (any_c (any_c (any_c any_n)))) (and_run hb6 hb6e hb11))
  · intro hb6e
    refine QW.skip (by subst hb6e; rfl) rfl ?_
    refine QW.skip (by subst hb6e; rfl) rfl ?_
    refine QW.skip (by subst hb6e; rfl) rfl ?_
    refine QW.skip (by subst hb6e; rfl) rfl ?_
    refine QW.q rfl rfl (yq_pick rfl (by (conv => lhs; whnf) <;> rfl) (by subst hb6e; ((conv => lhs; whnf) <;> rfl))) ?_
    exact QW.nil (SegM.mk (any_c (any_c (any_c (any_c any_n)))) (and_skip hb6 hb6e))
  · intro ρ12 b12 hA hb12
    obtain ⟨x8, x9, x10, x11, rfl⟩ := hA
    refine OW.q rfl rfl (yq_move rfl (by (conv => lhs; whnf) <;> rfl)) ?_
    apply OW.segAnd 5 [14, 15, 16, 17] 18 hb12
    · intro hb12e
      refine QW.q (by subst hb12e; rfl) rfl (yq_fieldAddr rfl (by (conv => lhs; whnf) <;> rfl) tf46_1 ti44) ?_
      refine QW.q (by subst hb12e; rfl) rfl (yq_fieldAddr rfl (by (conv => lhs; whnf) <;> rfl) tf44_0 ti3) ?_
      refine QW.q (by subst hb12e; rfl) rfl (yq_load1 rfl (by (conv => lhs; whnf) <;> rfl) ti3 (by repeat' first | exact List.mem_cons_self .. | apply List.mem_cons_of_mem) (sg_33 s (.slice a0 s.path.length cap0))) ?_
      refine QW.qb (by subst hb12e; rfl) rfl (yq_geq rfl (by (conv => lhs; whnf) <;> rfl) (by (conv => lhs; whnf) <;> rfl)) (fun b17 hb17 => ?_)
      refine QW.q rfl rfl (yq_pick rfl (by (conv => lhs; whnf) <;> rfl) (by subst hb12e; ((conv => lhs; whnf) <;> rfl))) ?_
      exact QW.nil (SegM.mk (any_c (any_c (any_c (any_c any_n)))) (and_run hb12 hb12e hb17))
    · intro hb12e
      refine QW.skip (by subst hb12e; rfl) rfl ?_
      refine QW.skip (by subst hb12e; rfl) rfl ?_
      refine QW.skip (by subst hb12e; rfl) rfl ?_
      refine QW.skip (by subst hb12e; rfl) rfl ?_
      refine QW.q rfl rfl (yq_pick rfl (by (conv => lhs; whnf) <;> rfl) (by subst hb12e; ((conv => lhs; whnf) <;> rfl))) ?_
      exact QW.nil (SegM.mk (any_c (any_c (any_c (any_c any_n)))) (and_skip hb12 hb12e))
    · intro ρ18 b18 hA hb18
      obtain ⟨x14, x15, x16, x17, rfl⟩ := hA
      refine OW.q rfl rfl (yq_move rfl (by (conv => lhs; whnf) <;> rfl)) ?_
      apply OW.segAnd 5 [20, 21, 22, 23] 24 hb18
      · intro hb18e
        refine QW.q (by subst hb18e; rfl) rfl (yq_fieldAddr rfl (by (conv => lhs; whnf) <;> rfl) tf46_1 ti44) ?_
        refine QW.q (by subst hb18e; rfl) rfl (yq_fieldAddr rfl (by (conv => lhs; whnf) <;> rfl) tf44_0 ti3) ?_
        refine QW.q (by subst hb18e; rfl) rfl (yq_load1 rfl (by (conv => lhs; whnf) <;> rfl) ti3 (by repeat' first | exact List.mem_cons_self .. | apply List.mem_cons_of_mem) (sg_33 s (.slice a0 s.path.length cap0))) ?_
        refine QW.qb (by subst hb18e; rfl) rfl (yq_leq rfl (by (conv => lhs; whnf) <;> rfl) (by (conv => lhs; whnf) <;> rfl)) (fun b23 hb23 => ?_)
        refine QW.q rfl rfl (yq_pick rfl (by (conv => lhs; whnf) <;> rfl) (by subst hb18e; ((conv => lhs; whnf) <;> rfl))) ?_
        exact QW.nil (SegM.mk (any_c (any_c (any_c (any_c any_n)))) (and_run hb18 hb18e hb23))
      · intro hb18e
        refine QW.skip (by subst hb18e; rfl) rfl ?_
        refine QW.skip (by subst hb18e; rfl) rfl ?_
        refine QW.skip (by subst hb18e; rfl) rfl ?_
        refine QW.skip (by subst hb18e; rfl) rfl ?_
        refine QW.q rfl rfl (yq_pick rfl (by (conv => lhs; whnf) <;> rfl) (by subst hb18e; ((conv => lhs; whnf) <;> rfl))) ?_
        exact QW.nil (SegM.mk (any_c (any_c (any_c (any_c any_n)))) (and_skip hb18 hb18e))
      · intro ρ24 b24 hA hb24
        obtain ⟨x20, x21, x22, x23, rfl⟩ := hA
        refine OW.q rfl rfl (yq_move rfl (by (conv => lhs; whnf) <;> rfl)) ?_
        apply OW.segAnd 6 [26, 27, 28, 29, 30] 31 hb24
        · intro hb24e
          refine QW.q (by subst hb24e; rfl) rfl (yq_fieldAddr rfl (by (conv => lhs; whnf) <;> rfl) tf46_1 ti44) ?_
          refine QW.q (by subst hb24e; rfl) rfl (yq_fieldAddr rfl (by (conv => lhs; whnf) <;> rfl) tf44_1 ti9) ?_
          refine QW.q (by subst hb24e; rfl) rfl (yq_load1 rfl (by (conv => lhs; whnf) <;> rfl) ti9 (by repeat' first | exact List.mem_cons_self .. | apply List.mem_cons_of_mem) (sg_34 s (.slice a0 s.path.length cap0))) ?_
          refine QW.q (by subst hb24e; rfl) rfl (yq_len_bs rfl tt9 (by (conv => lhs; whnf) <;> rfl)) ?_
          refine QW.qb (by subst hb24e; rfl) rfl (yq_eql rfl (by (conv => lhs; whnf) <;> rfl) (by (conv => lhs; whnf) <;> rfl)) (fun b30 hb30 => ?_)
          refine QW.q rfl rfl (yq_pick rfl (by (conv => lhs; whnf) <;> rfl) (by subst hb24e; ((conv => lhs; whnf) <;> rfl))) ?_
          exact QW.nil (SegM.mk (any_c (any_c (any_c (any_c (any_c any_n))))) (and_run hb24 hb24e hb30))
        · intro hb24e
          refine QW.skip (by subst hb24e; rfl) rfl ?_
          refine QW.skip (by subst hb24e; rfl) rfl ?_
          refine QW.skip (by subst hb24e; rfl) rfl ?_
          refine QW.skip (by subst hb24e; rfl) rfl ?_
          refine QW.skip (by subst hb24e; rfl) rfl ?_
          refine QW.q rfl rfl (yq_pick rfl (by (conv => lhs; whnf) <;> rfl) (by subst hb24e; ((conv => lhs; whnf) <;> rfl))) ?_
          exact QW.nil (SegM.mk (any_c (any_c (any_c (any_c (any_c any_n))))) (and_skip hb24 hb24e))
        · intro ρ31 b31 hA hb31
          obtain ⟨x26, x27, x28, x29, x30, rfl⟩ := hA
          refine OW.q rfl rfl (yq_move rfl (by (conv => lhs; whnf) <;> rfl)) ?_
          apply OW.segAnd 6 [33, 34, 35, 36, 37] 38 hb31
          · intro hb31e
            refine QW.q (by subst hb31e; rfl) rfl (yq_fieldAddr rfl (by (conv => lhs; whnf) <;> rfl) tf46_1 ti44) ?_
            refine QW.q (by subst hb31e; rfl) rfl (yq_fieldAddr rfl (by (conv => lhs; whnf) <;> rfl) tf44_2 ti22) ?_
            refine QW.q (by subst hb31e; rfl) rfl (yq_load1 rfl (by (conv => lhs; whnf) <;> rfl) ti22 (by repeat' first | exact List.mem_cons_self .. | apply List.mem_cons_of_mem) (sg_35 s (.slice a0 s.path.length cap0))) ?_
            refine QW.q (by subst hb31e; rfl) rfl (yq_len_slice rfl ts22 (by (conv => lhs; whnf) <;> rfl)) ?_
            refine QW.qb (by subst hb31e; rfl) rfl (yq_eql rfl (by (conv => lhs; whnf) <;> rfl) (by (conv => lhs; whnf) <;> rfl)) (fun b37 hb37 => ?_)
            refine QW.q rfl rfl (yq_pick rfl (by (conv => lhs; whnf) <;> rfl) (by subst hb31e; ((conv => lhs; whnf) <;> rfl))) ?_
            exact QW.nil (SegM.mk (any_c (any_c (any_c (any_c (any_c any_n))))) (and_run hb31 hb31e hb37))
          · intro hb31e
            refine QW.skip (by subst hb31e; rfl) rfl ?_
            refine QW.skip (by subst hb31e; rfl) rfl ?_
            refine QW.skip (by subst hb31e; rfl) rfl ?_
            refine QW.skip (by subst hb31e; rfl) rfl ?_
            refine QW.skip (by subst hb31e; rfl) rfl ?_
            refine QW.q rfl rfl (yq_pick rfl (by (conv => lhs; whnf) <;> rfl) (by subst hb31e; ((conv => lhs; whnf) <;> rfl))) ?_
            exact QW.nil (SegM.mk (any_c (any_c (any_c (any_c (any_c any_n))))) (and_skip hb31 hb31e))
          · intro ρ38 b38 hA hb38
            obtain ⟨x33, x34, x35, x36, x37, rfl⟩ := hA
            refine OW.q rfl rfl (yq_assign rfl (by (conv => lhs; whnf) <;> rfl)) ?_
            refine OW.nil ?_
            refine hK2 _ _ ?_
            refine CW.ret ?_
            -- ret (ret)
            have hbe : b38 = decide s.valid := Bool.eq_iff_iff.2 (by rw [hb38, decide_eq_true_iff]; unfold Sg.valid; omega)
            subst hbe
            exact fin1 (Or.inr rfl) rfl ⟨by decide, (by (conv => lhs; whnf) <;> rfl)⟩ (fun w hw => ⟨rfl, hw.sub (List.nil_sublist _)⟩)
set_option maxRecDepth 100000 in
set_option maxHeartbeats 1000000 in
theorem order_calls (a b : Sg) (w : World) :
    Calls Tryd.prog 85 #[HdV a.size a.root, HdV b.size b.root] w fun e w' => e = .returned (.int .i64 (ordL a b)) ∧ Cl w [] [] w' := by
  refine calls_of_CW (L := []) Tryd.func85 rfl (Nat.le_of_ble_eq_true rfl) (Cl.refl _) ?_
  refine CW.seq_k fun K1 hK1 => ?_
  refine CW.region ?_
  refine OW.box (cs := headC a.size a.root) rfl rfl rfl (by (conv => lhs; whnf) <;> rfl) rfl (fun b2 => ?_)
  refine OW.box (cs := headC b.size b.root) rfl rfl rfl (by (conv => lhs; whnf) <;> rfl) rfl (fun b3 => ?_)
  refine OW.q rfl rfl (yq_assign rfl (by (conv => lhs; whnf) <;> rfl)) ?_
  refine OW.nil ?_
  refine hK1 _ _ ?_
  refine CW.seq_k fun K2 hK2 => ?_
  refine CW.block ?_
  refine CW.seq_k fun K3 hK3 => ?_
  refine CW.region ?_
  refine OW.q rfl rfl (yq_fieldAddr rfl (by (conv => lhs; whnf) <;> rfl) tf33_0 ti3) ?_
  refine OW.q rfl rfl (yq_load1 rfl (by (conv => lhs; whnf) <;> rfl) ti3 (by repeat' first | exact List.mem_cons_self .. | apply List.mem_cons_of_mem) (hd_0 a.size a.root)) ?_
  refine OW.q rfl rfl (yq_fieldAddr rfl (by (conv => lhs; whnf) <;> rfl) tf33_0 ti3) ?_
  refine OW.q rfl rfl (yq_load1 rfl (by (conv => lhs; whnf) <;> rfl) ti3 (by repeat' first | exact List.mem_cons_self .. | apply List.mem_cons_of_mem) (hd_0 b.size b.root)) ?_
  refine OW.q rfl rfl (yq_lss rfl (by (conv => lhs; whnf) <;> rfl) (by (conv => lhs; whnf) <;> rfl)) ?_
  refine OW.q rfl rfl (yq_assign rfl (by (conv => lhs; whnf) <;> rfl)) ?_
  refine OW.nil ?_
  refine hK3 _ _ ?_
  refine CW.cond_dec (by (conv => lhs; whnf) <;> rfl) (fun hc1 => ?_) (fun hc1 => ?_)
  · refine CW.seq_k fun K4 hK4 => ?_
    refine CW.region ?_
    refine OW.q rfl rfl (yq_assign rfl (by (conv => lhs; whnf) <;> rfl)) ?_
    refine OW.nil ?_
    refine hK4 _ _ ?_
    refine CW.ret ?_
    refine blockQ_ret ?_
    refine then_ret ?_
    -- ret (ret)
    rw [show ordL a b = 0 by unfold ordL; rw [if_pos (by omega)]]
    exact fin1 (Or.inr rfl) rfl ⟨by decide, (by (conv => lhs; whnf) <;> rfl)⟩ (fun w hw => ⟨rfl, hw.sub (List.nil_sublist _)⟩)
  · refine CW.seq_k fun K5 hK5 => ?_
    refine CW.region ?_
    refine OW.q rfl rfl (yq_fieldAddr rfl (by (conv => lhs; whnf) <;> rfl) tf33_0 ti3) ?_
    refine OW.q rfl rfl (yq_load1 rfl (by (conv => lhs; whnf) <;> rfl) ti3 (by repeat' first | exact List.mem_cons_self .. | apply List.mem_cons_of_mem) (hd_0 a.size a.root)) ?_
    refine OW.q rfl rfl (yq_fieldAddr rfl (by (conv => lhs; whnf) <;> rfl) tf33_0 ti3) ?_
    refine OW.q rfl rfl (yq_load1 rfl (by (conv => lhs; whnf) <;> rfl) ti3 (by repeat' first | exact List.mem_cons_self .. | apply List.mem_cons_of_mem) (hd_0 b.size b.root)) ?_
    refine OW.q rfl rfl (yq_gtr rfl (by (conv => lhs; whnf) <;> rfl) (by (conv => lhs; whnf) <;> rfl)) ?_
    refine OW.q rfl rfl (yq_assign rfl (by (conv => lhs; whnf) <;> rfl)) ?_
    refine OW.nil ?_
    refine hK5 _ _ ?_
    refine CW.cond_dec (by (conv => lhs; whnf) <;> rfl) (fun hc2 => ?_) (fun hc2 => ?_)
    · refine CW.seq_k fun K6 hK6 => ?_
      refine CW.region ?_
      refine OW.q rfl rfl (yq_assign rfl (by (conv => lhs; whnf) <;> rfl)) ?_
      refine OW.nil ?_
      refine hK6 _ _ ?_
      refine CW.ret ?_
      refine blockQ_ret ?_
      refine then_ret ?_
      -- ret (ret)
      rw [show ordL a b = 2 by unfold ordL; rw [if_neg (by omega), if_pos (by omega)]]
      exact fin1 (Or.inr rfl) rfl ⟨by decide, (by (conv => lhs; whnf) <;> rfl)⟩ (fun w hw => ⟨rfl, hw.sub (List.nil_sublist _)⟩)
    · refine CW.seq_k fun K7 hK7 => ?_
      refine CW.region ?_
      refine OW.q rfl rfl (yq_fieldAddr rfl (by (conv => lhs; whnf) <;> rfl) tf33_1 ti25) ?_
      refine OW.q rfl rfl (yq_loadA (vs := hc a.root) rfl (by (conv => lhs; whnf) <;> rfl) (by rw [hc_length]; exact ti25) (by repeat' first | exact List.mem_cons_self .. | apply List.mem_cons_of_mem) (fun j u hu => hd_root a.size a.root j u hu)) ?_
      refine OW.q rfl rfl (yq_fieldAddr rfl (by (conv => lhs; whnf) <;> rfl) tf33_1 ti25) ?_
      refine OW.q rfl rfl (yq_loadA (vs := hc b.root) rfl (by (conv => lhs; whnf) <;> rfl) (by rw [hc_length]; exact ti25) (by repeat' first | exact List.mem_cons_self .. | apply List.mem_cons_of_mem) (fun j u hu => hd_root b.size b.root j u hu)) ?_
      refine OW.q rfl rfl (yq_eql_H rfl (by (conv => lhs; whnf) <;> rfl) (by (conv => lhs; whnf) <;> rfl) ta25 Tryd.underlying5 ti5 eg25) ?_
      refine OW.q rfl rfl (yq_assign rfl (by (conv => lhs; whnf) <;> rfl)) ?_
      refine OW.nil ?_
      refine hK7 _ _ ?_
      refine CW.cond_dec (by (conv => lhs; whnf) <;> rfl) (fun hc3 => ?_) (fun hc3 => ?_)
      · refine CW.seq_k fun K8 hK8 => ?_
        refine CW.region ?_
        refine OW.q rfl rfl (yq_assign rfl (by (conv => lhs; whnf) <;> rfl)) ?_
        refine OW.nil ?_
        refine hK8 _ _ ?_
        refine CW.ret ?_
        refine blockQ_ret ?_
        refine then_ret ?_
        -- ret (ret)
        rw [show ordL a b = 1 by unfold ordL; rw [if_neg (by omega), if_neg (by omega), if_pos hc3]]
        exact fin1 (Or.inr rfl) rfl ⟨by decide, (by (conv => lhs; whnf) <;> rfl)⟩ (fun w hw => ⟨rfl, hw.sub (List.nil_sublist _)⟩)
      · refine CW.skip ?_
        refine hK2 _ _ ?_
        refine CW.seq_k fun K9 hK9 => ?_
        refine CW.region ?_
        refine OW.q rfl rfl (yq_assign rfl (by (conv => lhs; whnf) <;> rfl)) ?_
        refine OW.nil ?_
        refine hK9 _ _ ?_
        refine CW.ret ?_
        -- ret (ret)
        rw [show ordL a b = 3 by unfold ordL; rw [if_neg (by omega), if_neg (by omega), if_neg hc3]]
        exact fin1 (Or.inr rfl) rfl ⟨by decide, (by (conv => lhs; whnf) <;> rfl)⟩ (fun w hw => ⟨rfl, hw.sub (List.nil_sublist _)⟩)
set_option maxRecDepth 100000 in
set_option maxHeartbeats 1000000 in
theorem reforder_calls (a b : Sg) (w : World) :
    Calls Tryd.prog 86 #[HdV a.size a.root, HdV b.size b.root] w fun e w' => e = .returned (.int .i64 (ordL a b)) ∧ Cl w [] [] w' := by
  refine calls_of_CW (L := []) Tryd.func86 rfl (Nat.le_of_ble_eq_true rfl) (Cl.refl _) ?_
  refine CW.seq_k fun K1 hK1 => ?_
  refine CW.region ?_
  refine OW.box (cs := headC a.size a.root) rfl rfl rfl (by (conv => lhs; whnf) <;> rfl) rfl (fun b2 => ?_)
  refine OW.box (cs := headC b.size b.root) rfl rfl rfl (by (conv => lhs; whnf) <;> rfl) rfl (fun b3 => ?_)
  refine OW.q rfl rfl (yq_assign rfl (by (conv => lhs; whnf) <;> rfl)) ?_
  refine OW.nil ?_
  refine hK1 _ _ ?_
  refine CW.seq_k fun K2 hK2 => ?_
  refine CW.seq_k fun K3 hK3 => ?_
  refine CW.region ?_
  refine OW.q rfl rfl (yq_fieldAddr rfl (by (conv => lhs; whnf) <;> rfl) tf33_0 ti3) ?_
  refine OW.q rfl rfl (yq_load1 rfl (by (conv => lhs; whnf) <;> rfl) ti3 (by repeat' first | exact List.mem_cons_self .. | apply List.mem_cons_of_mem) (hd_0 a.size a.root)) ?_
  refine OW.q rfl rfl (yq_fieldAddr rfl (by (conv => lhs; whnf) <;> rfl) tf33_0 ti3) ?_
  refine OW.q rfl rfl (yq_load1 rfl (by (conv => lhs; whnf) <;> rfl) ti3 (by repeat' first | exact List.mem_cons_self .. | apply List.mem_cons_of_mem) (hd_0 b.size b.root)) ?_
  refine OW.q rfl rfl (yq_neq rfl (by (conv => lhs; whnf) <;> rfl) (by (conv => lhs; whnf) <;> rfl)) ?_
  refine OW.nil ?_
  refine hK3 _ _ ?_
  refine CW.cond_dec (by (conv => lhs; whnf) <;> rfl) (fun hc0 => ?_) (fun hc0 => ?_)
  · refine CW.seq_k fun K4 hK4 => ?_
    refine CW.seq_k fun K5 hK5 => ?_
    refine CW.region ?_
    refine OW.q rfl rfl (yq_fieldAddr rfl (by (conv => lhs; whnf) <;> rfl) tf33_0 ti3) ?_
    refine OW.q rfl rfl (yq_load1 rfl (by (conv => lhs; whnf) <;> rfl) ti3 (by repeat' first | exact List.mem_cons_self .. | apply List.mem_cons_of_mem) (hd_0 a.size a.root)) ?_
    refine OW.q rfl rfl (yq_fieldAddr rfl (by (conv => lhs; whnf) <;> rfl) tf33_0 ti3) ?_
    refine OW.q rfl rfl (yq_load1 rfl (by (conv => lhs; whnf) <;> rfl) ti3 (by repeat' first | exact List.mem_cons_self .. | apply List.mem_cons_of_mem) (hd_0 b.size b.root)) ?_
    refine OW.q rfl rfl (yq_lss rfl (by (conv => lhs; whnf) <;> rfl) (by (conv => lhs; whnf) <;> rfl)) ?_
    refine OW.nil ?_
    refine hK5 _ _ ?_
    refine CW.cond_dec (by (conv => lhs; whnf) <;> rfl) (fun hc1 => ?_) (fun hc1 => ?_)
    · refine CW.seq_k fun K6 hK6 => ?_
      refine CW.region ?_
      refine OW.q rfl rfl (yq_assign rfl (by (conv => lhs; whnf) <;> rfl)) ?_
      refine OW.nil ?_
      refine hK6 _ _ ?_
      refine CW.ret ?_
      refine then_ret ?_
      refine then_ret ?_
      -- ret (ret)
      rw [show ordL a b = 0 by unfold ordL; rw [if_pos (by omega)]]
      exact fin1 (Or.inr rfl) rfl ⟨by decide, (by (conv => lhs; whnf) <;> rfl)⟩ (fun w hw => ⟨rfl, hw.sub (List.nil_sublist _)⟩)
    · refine CW.skip ?_
      refine hK4 _ _ ?_
      refine CW.seq_k fun K7 hK7 => ?_
      refine CW.region ?_
      refine OW.q rfl rfl (yq_assign rfl (by (conv => lhs; whnf) <;> rfl)) ?_
      refine OW.nil ?_
      refine hK7 _ _ ?_
      refine CW.ret ?_
      refine then_ret ?_
      -- ret (ret)
      rw [show ordL a b = 2 by unfold ordL; rw [if_neg (by omega), if_pos (by omega)]]
      exact fin1 (Or.inr rfl) rfl ⟨by decide, (by (conv => lhs; whnf) <;> rfl)⟩ (fun w hw => ⟨rfl, hw.sub (List.nil_sublist _)⟩)
  · refine CW.skip ?_
    refine hK2 _ _ ?_
    refine CW.seq_k fun K8 hK8 => ?_
    refine CW.seq_k fun K9 hK9 => ?_
    refine CW.region ?_
    refine OW.q rfl rfl (yq_fieldAddr rfl (by (conv => lhs; whnf) <;> rfl) tf33_1 ti25) ?_
    refine OW.q rfl rfl (yq_loadA (vs := hc a.root) rfl (by (conv => lhs; whnf) <;> rfl) (by rw [hc_length]; exact ti25) (by repeat' first | exact List.mem_cons_self .. | apply List.mem_cons_of_mem) (fun j u hu => hd_root a.size a.root j u hu)) ?_
    refine OW.q rfl rfl (yq_fieldAddr rfl (by (conv => lhs; whnf) <;> rfl) tf33_1 ti25) ?_
    refine OW.q rfl rfl (yq_loadA (vs := hc b.root) rfl (by (conv => lhs; whnf) <;> rfl) (by rw [hc_length]; exact ti25) (by repeat' first | exact List.mem_cons_self .. | apply List.mem_cons_of_mem) (fun j u hu => hd_root b.size b.root j u hu)) ?_
    refine OW.q rfl rfl (yq_neq_H rfl (by (conv => lhs; whnf) <;> rfl) (by (conv => lhs; whnf) <;> rfl) ta25 Tryd.underlying5 ti5 eg25) ?_
    refine OW.nil ?_
    refine hK9 _ _ ?_
    refine CW.cond_dec (by (conv => lhs; whnf) <;> rfl) (fun hc2 => ?_) (fun hc2 => ?_)
    · refine CW.seq_k fun K10 hK10 => ?_
      refine CW.region ?_
      refine OW.q rfl rfl (yq_assign rfl (by (conv => lhs; whnf) <;> rfl)) ?_
      refine OW.nil ?_
      refine hK10 _ _ ?_
      refine CW.ret ?_
      refine then_ret ?_
      -- ret (ret)
      rw [show ordL a b = 3 by unfold ordL; rw [if_neg (by omega), if_neg (by omega), if_neg hc2]]
      exact fin1 (Or.inr rfl) rfl ⟨by decide, (by (conv => lhs; whnf) <;> rfl)⟩ (fun w hw => ⟨rfl, hw.sub (List.nil_sublist _)⟩)
    · refine CW.skip ?_
      refine hK8 _ _ ?_
      refine CW.seq_k fun K11 hK11 => ?_
      refine CW.region ?_
      refine OW.q rfl rfl (yq_assign rfl (by (conv => lhs; whnf) <;> rfl)) ?_
      refine OW.nil ?_
      refine hK11 _ _ ?_
      refine CW.ret ?_
      -- ret (ret)
      rw [show ordL a b = 1 by unfold ordL; rw [if_neg (by omega), if_neg (by omega), if_pos (Decidable.byContradiction hc2)]]
      exact fin1 (Or.inr rfl) rfl ⟨by decide, (by (conv => lhs; whnf) <;> rfl)⟩ (fun w hw => ⟨rfl, hw.sub (List.nil_sublist _)⟩)
end Go.Proofs.YtahdekllphehkaaDoor
