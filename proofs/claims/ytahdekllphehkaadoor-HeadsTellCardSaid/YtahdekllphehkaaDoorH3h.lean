/- Heads: the same, put, checked; no statement of the seat is proved here. -/
import Derived.Test.YtahdekllphehkaaDoorH2h
import Derived.Test.YtahdekllphehkaaDoorMTh
set_option linter.unusedVariables false
set_option linter.unusedSimpArgs false
namespace Go.Proofs.YtahdekllphehkaaDoor
open Go.WL Go.Spec
set_option maxRecDepth 100000 in
set_option maxHeartbeats 1000000 in
theorem same2_calls (a b : Sg) (va vb : Value) (w : World) (hal : a.path.length ≤ 4294967296) (ha : HsAt w va a.path) (hb : HsAt w vb b.path) :
    Calls Tryd.prog 87 #[SgV a va, SgV b vb] w fun e w' => e = .returned (.bool (decide (a = b))) ∧ Cl w [] [] w' := by
  have ha0 := ha
  obtain ⟨aa, ca, rfl⟩ := ha0.len
  have hb0 := hb
  obtain ⟨ab, cb, rfl⟩ := hb0.len
  refine calls_of_CW (L := []) Tryd.func87 rfl (Nat.le_of_ble_eq_true rfl) (Cl.refl _) ?_
  refine CW.seq_k fun K1 hK1 => ?_
  refine CW.region ?_
  refine OW.box (cs := sgC a (.slice aa a.path.length ca)) rfl rfl rfl (by (conv => lhs; whnf) <;> rfl) rfl (fun b2 => ?_)
  refine OW.box (cs := sgC b (.slice ab b.path.length cb)) rfl rfl rfl (by (conv => lhs; whnf) <;> rfl) rfl (fun b3 => ?_)
  refine OW.q rfl rfl (yq_assign rfl (by (conv => lhs; whnf) <;> rfl)) ?_
  refine OW.nil ?_
  refine hK1 _ _ ?_
  refine CW.seq_k fun K2 hK2 => ?_
  refine CW.region ?_
  refine OW.q rfl rfl (yq_fieldAddr rfl (by (conv => lhs; whnf) <;> rfl) tf46_0 ti33) ?_
  refine OW.q rfl rfl (yq_loadA (vs := headC a.size a.root) rfl (by (conv => lhs; whnf) <;> rfl) (by rw [headC_length]; exact ti33) (by repeat' first | exact List.mem_cons_self .. | apply List.mem_cons_of_mem) (fun j u hu => sg_head a _ j u hu)) ?_
  refine OW.q rfl rfl (yq_fieldAddr rfl (by (conv => lhs; whnf) <;> rfl) tf46_0 ti33) ?_
  refine OW.q rfl rfl (yq_loadA (vs := headC b.size b.root) rfl (by (conv => lhs; whnf) <;> rfl) (by rw [headC_length]; exact ti33) (by repeat' first | exact List.mem_cons_self .. | apply List.mem_cons_of_mem) (fun j u hu => sg_head b _ j u hu)) ?_
  refine OW.qb rfl rfl (yq_eql_head rfl (by (conv => lhs; whnf) <;> rfl) (by (conv => lhs; whnf) <;> rfl) hd33) (fun b9 hb9 => ?_)
  refine OW.q rfl rfl (yq_move rfl (by (conv => lhs; whnf) <;> rfl)) ?_
  apply OW.segAnd 8 [11, 12, 13, 14, 15, 16, 17] 18 hb9
  · intro hb9e
    refine QW.q (by subst hb9e; rfl) rfl (yq_fieldAddr rfl (by (conv => lhs; whnf) <;> rfl) tf46_1 ti44) ?_
    refine QW.q (by subst hb9e; rfl) rfl (yq_fieldAddr rfl (by (conv => lhs; whnf) <;> rfl) tf44_0 ti3) ?_
    refine QW.q (by subst hb9e; rfl) rfl (yq_load1 rfl (by (conv => lhs; whnf) <;> rfl) ti3 (by repeat' first | exact List.mem_cons_self .. | apply List.mem_cons_of_mem) (sg_33 a _)) ?_
    refine QW.q (by subst hb9e; rfl) rfl (yq_fieldAddr rfl (by (conv => lhs; whnf) <;> rfl) tf46_1 ti44) ?_
    refine QW.q (by subst hb9e; rfl) rfl (yq_fieldAddr rfl (by (conv => lhs; whnf) <;> rfl) tf44_0 ti3) ?_
    refine QW.q (by subst hb9e; rfl) rfl (yq_load1 rfl (by (conv => lhs; whnf) <;> rfl) ti3 (by repeat' first | exact List.mem_cons_self .. | apply List.mem_cons_of_mem) (sg_33 b _)) ?_
    refine QW.qb (by subst hb9e; rfl) rfl (yq_eql rfl (by (conv => lhs; whnf) <;> rfl) (by (conv => lhs; whnf) <;> rfl)) (fun b17 hb17 => ?_)
    refine QW.q rfl rfl (yq_pick rfl (by (conv => lhs; whnf) <;> rfl) (by subst hb9e; ((conv => lhs; whnf) <;> rfl))) ?_
    exact QW.nil (SegM.mk (any_c (any_c (any_c (any_c (any_c (any_c (any_c any_n))))))) (and_run hb9 hb9e hb17))
  · intro hb9e
    refine QW.skip (by subst hb9e; rfl) rfl ?_
    refine QW.skip (by subst hb9e; rfl) rfl ?_
    refine QW.skip (by subst hb9e; rfl) rfl ?_
    refine QW.skip (by subst hb9e; rfl) rfl ?_
    refine QW.skip (by subst hb9e; rfl) rfl ?_
    refine QW.skip (by subst hb9e; rfl) rfl ?_
    refine QW.skip (by subst hb9e; rfl) rfl ?_
    refine QW.q rfl rfl (yq_pick rfl (by (conv => lhs; whnf) <;> rfl) (by subst hb9e; ((conv => lhs; whnf) <;> rfl))) ?_
    exact QW.nil (SegM.mk (any_c (any_c (any_c (any_c (any_c (any_c (any_c any_n))))))) (and_skip hb9 hb9e))
  · intro ρ18 b18 hA hb18
    obtain ⟨x11, x12, x13, x14, x15, x16, x17, rfl⟩ := hA
    refine OW.q rfl rfl (yq_move rfl (by (conv => lhs; whnf) <;> rfl)) ?_
    apply OW.segAnd 8 [20, 21, 22, 23, 24, 25, 26] 27 hb18
    · intro hb18e
      refine QW.q (by subst hb18e; rfl) rfl (yq_fieldAddr rfl (by (conv => lhs; whnf) <;> rfl) tf46_1 ti44) ?_
      refine QW.q (by subst hb18e; rfl) rfl (yq_fieldAddr rfl (by (conv => lhs; whnf) <;> rfl) tf44_1 ti9) ?_
      refine QW.q (by subst hb18e; rfl) rfl (yq_load1 rfl (by (conv => lhs; whnf) <;> rfl) ti9 (by repeat' first | exact List.mem_cons_self .. | apply List.mem_cons_of_mem) (sg_34 a _)) ?_
      refine QW.q (by subst hb18e; rfl) rfl (yq_fieldAddr rfl (by (conv => lhs; whnf) <;> rfl) tf46_1 ti44) ?_
      refine QW.q (by subst hb18e; rfl) rfl (yq_fieldAddr rfl (by (conv => lhs; whnf) <;> rfl) tf44_1 ti9) ?_
      refine QW.q (by subst hb18e; rfl) rfl (yq_load1 rfl (by (conv => lhs; whnf) <;> rfl) ti9 (by repeat' first | exact List.mem_cons_self .. | apply List.mem_cons_of_mem) (sg_34 b _)) ?_
      refine QW.qb (by subst hb18e; rfl) rfl (yq_eql_bs rfl (by (conv => lhs; whnf) <;> rfl) (by (conv => lhs; whnf) <;> rfl)) (fun b26 hb26 => ?_)
      refine QW.q rfl rfl (yq_pick rfl (by (conv => lhs; whnf) <;> rfl) (by subst hb18e; ((conv => lhs; whnf) <;> rfl))) ?_
      exact QW.nil (SegM.mk (any_c (any_c (any_c (any_c (any_c (any_c (any_c any_n))))))) (and_run hb18 hb18e hb26))
    · intro hb18e
      refine QW.skip (by subst hb18e; rfl) rfl ?_
      refine QW.skip (by subst hb18e; rfl) rfl ?_
      refine QW.skip (by subst hb18e; rfl) rfl ?_
      refine QW.skip (by subst hb18e; rfl) rfl ?_
      refine QW.skip (by subst hb18e; rfl) rfl ?_
      refine QW.skip (by subst hb18e; rfl) rfl ?_
      refine QW.skip (by subst hb18e; rfl) rfl ?_
      refine QW.q rfl rfl (yq_pick rfl (by (conv => lhs; whnf) <;> rfl) (by subst hb18e; ((conv => lhs; whnf) <;> rfl))) ?_
      exact QW.nil (SegM.mk (any_c (any_c (any_c (any_c (any_c (any_c (any_c any_n))))))) (and_skip hb18 hb18e))
    · intro ρ27 b27 hA hb27
      obtain ⟨x20, x21, x22, x23, x24, x25, x26, rfl⟩ := hA
      refine OW.q rfl rfl (yq_move rfl (by (conv => lhs; whnf) <;> rfl)) ?_
      apply OW.segAnd 8 [29, 30, 31, 32, 33, 34, 35] 36 hb27
      · intro hb27e
        refine QW.q (by subst hb27e; rfl) rfl (yq_fieldAddr rfl (by (conv => lhs; whnf) <;> rfl) tf46_1 ti44) ?_
        refine QW.q (by subst hb27e; rfl) rfl (yq_fieldAddr rfl (by (conv => lhs; whnf) <;> rfl) tf44_2 ti22) ?_
        refine QW.q (by subst hb27e; rfl) rfl (yq_load1 rfl (by (conv => lhs; whnf) <;> rfl) ti22 (by repeat' first | exact List.mem_cons_self .. | apply List.mem_cons_of_mem) (sg_35 a _)) ?_
        refine QW.q (by subst hb27e; rfl) rfl (yq_fieldAddr rfl (by (conv => lhs; whnf) <;> rfl) tf46_1 ti44) ?_
        refine QW.q (by subst hb27e; rfl) rfl (yq_fieldAddr rfl (by (conv => lhs; whnf) <;> rfl) tf44_2 ti22) ?_
        refine QW.q (by subst hb27e; rfl) rfl (yq_load1 rfl (by (conv => lhs; whnf) <;> rfl) ti22 (by repeat' first | exact List.mem_cons_self .. | apply List.mem_cons_of_mem) (sg_35 b _)) ?_
        refine QW.qb (by subst hb27e; rfl) rfl (yq_call rfl rfl (.cons (by (conv => lhs; whnf) <;> rfl) (.cons (by (conv => lhs; whnf) <;> rfl) .nil)) en113 (fun w hw => equal_calls a.path b.path _ _ w hal (ha.mono hw) (hb.mono hw))) (fun b35 hb35 => ?_)
        refine QW.q rfl rfl (yq_pick rfl (by (conv => lhs; whnf) <;> rfl) (by subst hb27e; ((conv => lhs; whnf) <;> rfl))) ?_
        exact QW.nil (SegM.mk (any_c (any_c (any_c (any_c (any_c (any_c (any_c any_n))))))) (and_run hb27 hb27e hb35))
      · intro hb27e
        refine QW.skip (by subst hb27e; rfl) rfl ?_
        refine QW.skip (by subst hb27e; rfl) rfl ?_
        refine QW.skip (by subst hb27e; rfl) rfl ?_
        refine QW.skip (by subst hb27e; rfl) rfl ?_
        refine QW.skip (by subst hb27e; rfl) rfl ?_
        refine QW.skip (by subst hb27e; rfl) rfl ?_
        refine QW.skip (by subst hb27e; rfl) rfl ?_
        refine QW.q rfl rfl (yq_pick rfl (by (conv => lhs; whnf) <;> rfl) (by subst hb27e; ((conv => lhs; whnf) <;> rfl))) ?_
        exact QW.nil (SegM.mk (any_c (any_c (any_c (any_c (any_c (any_c (any_c any_n))))))) (and_skip hb27 hb27e))
      · intro ρ36 b36 hA hb36
        obtain ⟨x29, x30, x31, x32, x33, x34, x35, rfl⟩ := hA
        refine OW.q rfl rfl (yq_assign rfl (by (conv => lhs; whnf) <;> rfl)) ?_
        refine OW.nil ?_
        refine hK2 _ _ ?_
        refine CW.ret ?_
        -- ret (ret)
        have hbe : b36 = decide (a = b) := Bool.eq_iff_iff.2 (by rw [hb36, decide_eq_true_iff, sg_ext]; simp only [and_assoc])
        subst hbe
        exact fin1 (Or.inr rfl) rfl ⟨by decide, (by (conv => lhs; whnf) <;> rfl)⟩ (fun w hw => ⟨rfl, hw.sub (List.nil_sublist _)⟩)
set_option maxRecDepth 100000 in
set_option maxHeartbeats 1000000 in
theorem same3_calls (a b : Sg) (va vb : Value) (w : World) (hal : a.path.length ≤ 4294967296) (ha : HsAt w va a.path) (hb : HsAt w vb b.path) :
    Calls Tryd.prog 68 #[SgV a va, SgV b vb] w fun e w' => e = .returned (.bool (decide (a = b))) ∧ Cl w [] [] w' := by
  have ha0 := ha
  obtain ⟨aa, ca, rfl⟩ := ha0.len
  have hb0 := hb
  obtain ⟨ab, cb, rfl⟩ := hb0.len
  refine calls_of_CW (L := []) Tryd.func68 rfl (Nat.le_of_ble_eq_true rfl) (Cl.refl _) ?_
  refine CW.seq_k fun K1 hK1 => ?_
  refine CW.region ?_
  refine OW.box (cs := sgC a (.slice aa a.path.length ca)) rfl rfl rfl (by (conv => lhs; whnf) <;> rfl) rfl (fun b2 => ?_)
  refine OW.box (cs := sgC b (.slice ab b.path.length cb)) rfl rfl rfl (by (conv => lhs; whnf) <;> rfl) rfl (fun b3 => ?_)
  refine OW.q rfl rfl (yq_assign rfl (by (conv => lhs; whnf) <;> rfl)) ?_
  refine OW.nil ?_
  refine hK1 _ _ ?_
  refine CW.seq_k fun K2 hK2 => ?_
  refine CW.region ?_
  refine OW.q rfl rfl (yq_fieldAddr rfl (by (conv => lhs; whnf) <;> rfl) tf46_0 ti33) ?_
  refine OW.q rfl rfl (yq_loadA (vs := headC a.size a.root) rfl (by (conv => lhs; whnf) <;> rfl) (by rw [headC_length]; exact ti33) (by repeat' first | exact List.mem_cons_self .. | apply List.mem_cons_of_mem) (fun j u hu => sg_head a _ j u hu)) ?_
  refine OW.q rfl rfl (yq_fieldAddr rfl (by (conv => lhs; whnf) <;> rfl) tf46_0 ti33) ?_
  refine OW.q rfl rfl (yq_loadA (vs := headC b.size b.root) rfl (by (conv => lhs; whnf) <;> rfl) (by rw [headC_length]; exact ti33) (by repeat' first | exact List.mem_cons_self .. | apply List.mem_cons_of_mem) (fun j u hu => sg_head b _ j u hu)) ?_
  refine OW.qb rfl rfl (yq_eql_head rfl (by (conv => lhs; whnf) <;> rfl) (by (conv => lhs; whnf) <;> rfl) hd33) (fun b9 hb9 => ?_)
  refine OW.q rfl rfl (yq_move rfl (by (conv => lhs; whnf) <;> rfl)) ?_
  apply OW.segAnd 6 [11, 12, 13, 14, 15] 16 hb9
  · intro hb9e
    refine QW.q (by subst hb9e; rfl) rfl (yq_fieldAddr rfl (by (conv => lhs; whnf) <;> rfl) tf46_1 ti44) ?_
    refine QW.q (by subst hb9e; rfl) rfl (yq_loadA (vs := sealC a _) rfl (by (conv => lhs; whnf) <;> rfl) ti44 (by repeat' first | exact List.mem_cons_self .. | apply List.mem_cons_of_mem) (fun j u hu => sg_seal a _ j u hu)) ?_
    refine QW.q (by subst hb9e; rfl) rfl (yq_fieldAddr rfl (by (conv => lhs; whnf) <;> rfl) tf46_1 ti44) ?_
    refine QW.q (by subst hb9e; rfl) rfl (yq_loadA (vs := sealC b _) rfl (by (conv => lhs; whnf) <;> rfl) ti44 (by repeat' first | exact List.mem_cons_self .. | apply List.mem_cons_of_mem) (fun j u hu => sg_seal b _ j u hu)) ?_
    refine QW.qb (by subst hb9e; rfl) rfl (yq_call rfl rfl (.cons (by (conv => lhs; whnf) <;> rfl) (.cons (by (conv => lhs; whnf) <;> rfl) .nil)) en77 (fun w hw => sameseal_calls a.index b.index a.sig b.sig _ _ a.path b.path w hal (ha.mono hw) (hb.mono hw))) (fun b15 hb15 => ?_)
    refine QW.q rfl rfl (yq_pick rfl (by (conv => lhs; whnf) <;> rfl) (by subst hb9e; ((conv => lhs; whnf) <;> rfl))) ?_
    exact QW.nil (SegM.mk (any_c (any_c (any_c (any_c (any_c any_n))))) (and_run hb9 hb9e hb15))
  · intro hb9e
    refine QW.skip (by subst hb9e; rfl) rfl ?_
    refine QW.skip (by subst hb9e; rfl) rfl ?_
    refine QW.skip (by subst hb9e; rfl) rfl ?_
    refine QW.skip (by subst hb9e; rfl) rfl ?_
    refine QW.skip (by subst hb9e; rfl) rfl ?_
    refine QW.q rfl rfl (yq_pick rfl (by (conv => lhs; whnf) <;> rfl) (by subst hb9e; ((conv => lhs; whnf) <;> rfl))) ?_
    exact QW.nil (SegM.mk (any_c (any_c (any_c (any_c (any_c any_n))))) (and_skip hb9 hb9e))
  · intro ρ16 b16 hA hb16
    obtain ⟨x11, x12, x13, x14, x15, rfl⟩ := hA
    refine OW.q rfl rfl (yq_assign rfl (by (conv => lhs; whnf) <;> rfl)) ?_
    refine OW.nil ?_
    refine hK2 _ _ ?_
    refine CW.ret ?_
    -- ret (ret)
    have hbe : b16 = decide (a = b) := Bool.eq_iff_iff.2 (by rw [hb16, decide_eq_true_iff, sg_ext]; simp only [and_assoc])
    subst hbe
    exact fin1 (Or.inr rfl) rfl ⟨by decide, (by (conv => lhs; whnf) <;> rfl)⟩ (fun w hw => ⟨rfl, hw.sub (List.nil_sublist _)⟩)
set_option maxRecDepth 100000 in
set_option maxHeartbeats 1000000 in
theorem refsame2_calls (a b : Sg) (va vb : Value) (w : World) (hal : a.path.length ≤ 4294967296) (ha : HsAt w va a.path) (hb : HsAt w vb b.path) :
    Calls Tryd.prog 88 #[SgV a va, SgV b vb] w fun e w' => e = .returned (.bool (decide (a = b))) ∧ Cl w [] [] w' := by
  have ha0 := ha
  obtain ⟨aa, ca, rfl⟩ := ha0.len
  have hb0 := hb
  obtain ⟨ab, cb, rfl⟩ := hb0.len
  refine calls_of_CW (L := []) Tryd.func88 rfl (Nat.le_of_ble_eq_true rfl) (Cl.refl _) ?_
  refine CW.seq_k fun K1 hK1 => ?_
  refine CW.region ?_
  refine OW.box (cs := sgC a (.slice aa a.path.length ca)) rfl rfl rfl (by (conv => lhs; whnf) <;> rfl) rfl (fun b2 => ?_)
  refine OW.box (cs := sgC b (.slice ab b.path.length cb)) rfl rfl rfl (by (conv => lhs; whnf) <;> rfl) rfl (fun b3 => ?_)
  refine OW.q rfl rfl (yq_assign rfl (by (conv => lhs; whnf) <;> rfl)) ?_
  refine OW.nil ?_
  refine hK1 _ _ ?_
  refine CW.seq_k fun K2 hK2 => ?_
  refine CW.seq_k fun K3 hK3 => ?_
  refine CW.region ?_
  refine OW.q rfl rfl (yq_fieldAddr rfl (by (conv => lhs; whnf) <;> rfl) tf46_0 ti33) ?_
  refine OW.q rfl rfl (yq_loadA (vs := headC a.size a.root) rfl (by (conv => lhs; whnf) <;> rfl) (by rw [headC_length]; exact ti33) (by repeat' first | exact List.mem_cons_self .. | apply List.mem_cons_of_mem) (fun j u hu => sg_head a _ j u hu)) ?_
  refine OW.q rfl rfl (yq_fieldAddr rfl (by (conv => lhs; whnf) <;> rfl) tf46_0 ti33) ?_
  refine OW.q rfl rfl (yq_loadA (vs := headC b.size b.root) rfl (by (conv => lhs; whnf) <;> rfl) (by rw [headC_length]; exact ti33) (by repeat' first | exact List.mem_cons_self .. | apply List.mem_cons_of_mem) (fun j u hu => sg_head b _ j u hu)) ?_
  refine OW.qb rfl rfl (yq_neq_head rfl (by (conv => lhs; whnf) <;> rfl) (by (conv => lhs; whnf) <;> rfl) hd33) (fun b10 hb10 => ?_)
  refine OW.q rfl rfl (yq_move rfl (by (conv => lhs; whnf) <;> rfl)) ?_
  apply OW.segOr 8 [12, 13, 14, 15, 16, 17, 18] 19 hb10
  · intro hb10e
    refine QW.q (by subst hb10e; rfl) rfl (yq_fieldAddr rfl (by (conv => lhs; whnf) <;> rfl) tf46_1 ti44) ?_
    refine QW.q (by subst hb10e; rfl) rfl (yq_fieldAddr rfl (by (conv => lhs; whnf) <;> rfl) tf44_0 ti3) ?_
    refine QW.q (by subst hb10e; rfl) rfl (yq_load1 rfl (by (conv => lhs; whnf) <;> rfl) ti3 (by repeat' first | exact List.mem_cons_self .. | apply List.mem_cons_of_mem) (sg_33 a _)) ?_
    refine QW.q (by subst hb10e; rfl) rfl (yq_fieldAddr rfl (by (conv => lhs; whnf) <;> rfl) tf46_1 ti44) ?_
    refine QW.q (by subst hb10e; rfl) rfl (yq_fieldAddr rfl (by (conv => lhs; whnf) <;> rfl) tf44_0 ti3) ?_
    refine QW.q (by subst hb10e; rfl) rfl (yq_load1 rfl (by (conv => lhs; whnf) <;> rfl) ti3 (by repeat' first | exact List.mem_cons_self .. | apply List.mem_cons_of_mem) (sg_33 b _)) ?_
    refine QW.qb (by subst hb10e; rfl) rfl (yq_neq rfl (by (conv => lhs; whnf) <;> rfl) (by (conv => lhs; whnf) <;> rfl)) (fun b18 hb18 => ?_)
    refine QW.q rfl rfl (yq_pick rfl (by (conv => lhs; whnf) <;> rfl) (by subst hb10e; ((conv => lhs; whnf) <;> rfl))) ?_
    exact QW.nil (SegM.mk (any_c (any_c (any_c (any_c (any_c (any_c (any_c any_n))))))) (or_run hb10 hb10e hb18))
  · intro hb10e
    refine QW.skip (by subst hb10e; rfl) rfl ?_
    refine QW.skip (by subst hb10e; rfl) rfl ?_
    refine QW.skip (by subst hb10e; rfl) rfl ?_
    refine QW.skip (by subst hb10e; rfl) rfl ?_
    refine QW.skip (by subst hb10e; rfl) rfl ?_
    refine QW.skip (by subst hb10e; rfl) rfl ?_
    refine QW.skip (by subst hb10e; rfl) rfl ?_
    refine QW.q rfl rfl (yq_pick rfl (by (conv => lhs; whnf) <;> rfl) (by subst hb10e; ((conv => lhs; whnf) <;> rfl))) ?_
    exact QW.nil (SegM.mk (any_c (any_c (any_c (any_c (any_c (any_c (any_c any_n))))))) (or_skip hb10 hb10e))
  · intro ρ19 b19 hA hb19
    obtain ⟨x12, x13, x14, x15, x16, x17, x18, rfl⟩ := hA
    refine OW.q rfl rfl (yq_move rfl (by (conv => lhs; whnf) <;> rfl)) ?_
    apply OW.segOr 8 [21, 22, 23, 24, 25, 26, 27] 28 hb19
    · intro hb19e
      refine QW.q (by subst hb19e; rfl) rfl (yq_fieldAddr rfl (by (conv => lhs; whnf) <;> rfl) tf46_1 ti44) ?_
      refine QW.q (by subst hb19e; rfl) rfl (yq_fieldAddr rfl (by (conv => lhs; whnf) <;> rfl) tf44_1 ti9) ?_
      refine QW.q (by subst hb19e; rfl) rfl (yq_load1 rfl (by (conv => lhs; whnf) <;> rfl) ti9 (by repeat' first | exact List.mem_cons_self .. | apply List.mem_cons_of_mem) (sg_34 a _)) ?_
      refine QW.q (by subst hb19e; rfl) rfl (yq_fieldAddr rfl (by (conv => lhs; whnf) <;> rfl) tf46_1 ti44) ?_
      refine QW.q (by subst hb19e; rfl) rfl (yq_fieldAddr rfl (by (conv => lhs; whnf) <;> rfl) tf44_1 ti9) ?_
      refine QW.q (by subst hb19e; rfl) rfl (yq_load1 rfl (by (conv => lhs; whnf) <;> rfl) ti9 (by repeat' first | exact List.mem_cons_self .. | apply List.mem_cons_of_mem) (sg_34 b _)) ?_
      refine QW.qb (by subst hb19e; rfl) rfl (yq_neq_bs rfl (by (conv => lhs; whnf) <;> rfl) (by (conv => lhs; whnf) <;> rfl)) (fun b27 hb27 => ?_)
      refine QW.q rfl rfl (yq_pick rfl (by (conv => lhs; whnf) <;> rfl) (by subst hb19e; ((conv => lhs; whnf) <;> rfl))) ?_
      exact QW.nil (SegM.mk (any_c (any_c (any_c (any_c (any_c (any_c (any_c any_n))))))) (or_run hb19 hb19e hb27))
    · intro hb19e
      refine QW.skip (by subst hb19e; rfl) rfl ?_
      refine QW.skip (by subst hb19e; rfl) rfl ?_
      refine QW.skip (by subst hb19e; rfl) rfl ?_
      refine QW.skip (by subst hb19e; rfl) rfl ?_
      refine QW.skip (by subst hb19e; rfl) rfl ?_
      refine QW.skip (by subst hb19e; rfl) rfl ?_
      refine QW.skip (by subst hb19e; rfl) rfl ?_
      refine QW.q rfl rfl (yq_pick rfl (by (conv => lhs; whnf) <;> rfl) (by subst hb19e; ((conv => lhs; whnf) <;> rfl))) ?_
      exact QW.nil (SegM.mk (any_c (any_c (any_c (any_c (any_c (any_c (any_c any_n))))))) (or_skip hb19 hb19e))
    · intro ρ28 b28 hA hb28
      obtain ⟨x21, x22, x23, x24, x25, x26, x27, rfl⟩ := hA
      refine OW.q rfl rfl (yq_move rfl (by (conv => lhs; whnf) <;> rfl)) ?_
      apply OW.segOr 10 [30, 31, 32, 33, 34, 35, 36, 37, 38] 39 hb28
      · intro hb28e
        refine QW.q (by subst hb28e; rfl) rfl (yq_fieldAddr rfl (by (conv => lhs; whnf) <;> rfl) tf46_1 ti44) ?_
        refine QW.q (by subst hb28e; rfl) rfl (yq_fieldAddr rfl (by (conv => lhs; whnf) <;> rfl) tf44_2 ti22) ?_
        refine QW.q (by subst hb28e; rfl) rfl (yq_load1 rfl (by (conv => lhs; whnf) <;> rfl) ti22 (by repeat' first | exact List.mem_cons_self .. | apply List.mem_cons_of_mem) (sg_35 a _)) ?_
        refine QW.q (by subst hb28e; rfl) rfl (yq_len_slice rfl ts22 (by (conv => lhs; whnf) <;> rfl)) ?_
        refine QW.q (by subst hb28e; rfl) rfl (yq_fieldAddr rfl (by (conv => lhs; whnf) <;> rfl) tf46_1 ti44) ?_
        refine QW.q (by subst hb28e; rfl) rfl (yq_fieldAddr rfl (by (conv => lhs; whnf) <;> rfl) tf44_2 ti22) ?_
        refine QW.q (by subst hb28e; rfl) rfl (yq_load1 rfl (by (conv => lhs; whnf) <;> rfl) ti22 (by repeat' first | exact List.mem_cons_self .. | apply List.mem_cons_of_mem) (sg_35 b _)) ?_
        refine QW.q (by subst hb28e; rfl) rfl (yq_len_slice rfl ts22 (by (conv => lhs; whnf) <;> rfl)) ?_
        refine QW.qb (by subst hb28e; rfl) rfl (yq_neq rfl (by (conv => lhs; whnf) <;> rfl) (by (conv => lhs; whnf) <;> rfl)) (fun b38 hb38 => ?_)
        refine QW.q rfl rfl (yq_pick rfl (by (conv => lhs; whnf) <;> rfl) (by subst hb28e; ((conv => lhs; whnf) <;> rfl))) ?_
        exact QW.nil (SegM.mk (any_c (any_c (any_c (any_c (any_c (any_c (any_c (any_c (any_c any_n))))))))) (or_run hb28 hb28e hb38))
      · intro hb28e
        refine QW.skip (by subst hb28e; rfl) rfl ?_
        refine QW.skip (by subst hb28e; rfl) rfl ?_
        refine QW.skip (by subst hb28e; rfl) rfl ?_
        refine QW.skip (by subst hb28e; rfl) rfl ?_
        refine QW.skip (by subst hb28e; rfl) rfl ?_
        refine QW.skip (by subst hb28e; rfl) rfl ?_
        refine QW.skip (by subst hb28e; rfl) rfl ?_
        refine QW.skip (by subst hb28e; rfl) rfl ?_
        refine QW.skip (by subst hb28e; rfl) rfl ?_
        refine QW.q rfl rfl (yq_pick rfl (by (conv => lhs; whnf) <;> rfl) (by subst hb28e; ((conv => lhs; whnf) <;> rfl))) ?_
        exact QW.nil (SegM.mk (any_c (any_c (any_c (any_c (any_c (any_c (any_c (any_c (any_c any_n))))))))) (or_skip hb28 hb28e))
      · intro ρ39 b39 hA hb39
        obtain ⟨x30, x31, x32, x33, x34, x35, x36, x37, x38, rfl⟩ := hA
        refine OW.nil ?_
        refine hK3 _ _ ?_
        refine CW.condq (by (conv => lhs; whnf) <;> rfl) hb39 (fun hc0 => ?_) (fun hc0 => ?_)
        · have hne : ¬ a = b := fun h => by subst h; simp at hc0
          refine CW.seq_k fun K4 hK4 => ?_
          refine CW.region ?_
          refine OW.q rfl rfl (yq_assign rfl (by (conv => lhs; whnf) <;> rfl)) ?_
          refine OW.nil ?_
          refine hK4 _ _ ?_
          refine CW.ret ?_
          refine then_ret ?_
          -- ret (ret)
          rw [decide_eq_false hne]
          exact fin1 (Or.inr rfl) rfl ⟨by decide, (by (conv => lhs; whnf) <;> rfl)⟩ (fun w hw => ⟨rfl, hw.sub (List.nil_sublist _)⟩)
        · have hc : (a.size = b.size ∧ a.root = b.root) ∧ a.index = b.index ∧ a.sig = b.sig ∧ (a.path.length : Int) = b.path.length := by
            simp only [not_or, Decidable.not_not] at hc0
            exact ⟨hc0.1.1.1, hc0.1.1.2, hc0.1.2, hc0.2⟩
          clear hc0
          obtain ⟨⟨q1, q2⟩, q3, q4, q5⟩ := hc
          have hlen : a.path.length = b.path.length := by omega
          refine CW.skip ?_
          refine hK2 _ _ ?_
          refine CW.seq_k fun K5 hK5 => ?_
          refine CW.seq_k fun K6 hK6 => ?_
          refine CW.region ?_
          refine OW.q rfl rfl (yq_assign rfl (by (conv => lhs; whnf) <;> rfl)) ?_
          refine OW.nil ?_
          refine hK6 _ _ ?_
          refine CW.block ?_
          refine CW.loop (σ := Nat) (fun j ρ L => Has ρ [(2, .pointer (some ⟨b2, 0, none⟩)), (3, .pointer (some ⟨b3, 0, none⟩)), (5, .int .i64 (j : Int))] ∧ j ≤ a.path.length ∧ a.path.take j = b.path.take j ∧ L = [.blk b3 (sgC b (.slice ab b.path.length cb)) 46 (0, 0), .blk b2 (sgC a (.slice aa a.path.length ca)) 46 (0, 0)]) (fun j => a.path.length - j) (0) ?_ ?_
          · exact ⟨Has.mk ⟨(by (conv => lhs; whnf) <;> rfl), (by (conv => lhs; whnf) <;> rfl), (by (conv => lhs; whnf) <;> rfl), trivial⟩, Nat.zero_le _, rfl, rfl⟩
          · rintro j _ _ ⟨⟨ρ', rfl⟩, hj, htk, rfl⟩
            refine CW.seq_k fun K7 hK7 => ?_
            refine CW.seq_k fun K8 hK8 => ?_
            refine CW.region ?_
            refine OW.q rfl rfl (yq_move rfl (by (conv => lhs; whnf) <;> rfl)) ?_
            refine OW.q rfl rfl (yq_fieldAddr rfl (by (conv => lhs; whnf) <;> rfl) tf46_1 ti44) ?_
            refine OW.q rfl rfl (yq_fieldAddr rfl (by (conv => lhs; whnf) <;> rfl) tf44_2 ti22) ?_
            refine OW.q rfl rfl (yq_load1 rfl (by (conv => lhs; whnf) <;> rfl) ti22 (by repeat' first | exact List.mem_cons_self .. | apply List.mem_cons_of_mem) (sg_35 a _)) ?_
            refine OW.q rfl rfl (yq_len_slice rfl ts22 (by (conv => lhs; whnf) <;> rfl)) ?_
            refine OW.q rfl rfl (yq_lss rfl (by (conv => lhs; whnf) <;> rfl) (by (conv => lhs; whnf) <;> rfl)) ?_
            refine OW.nil ?_
            refine hK8 _ _ ?_
            refine CW.cond_dec (by (conv => lhs; whnf) <;> rfl) (fun hc2 => ?_) (fun hc2 => ?_)
            · have hlt : j < a.path.length := by omega
              obtain ⟨b1, off1, cp1, hv1, hcp1⟩ := ha.place (fun e => by rw [e] at hlt; simp at hlt)
              rw [Value.slice.injEq] at hv1
              obtain ⟨rfl, _, rfl⟩ := hv1
              obtain ⟨b4, off2, cp2, hv2, hcp2⟩ := hb.place (fun e => by rw [hlen, e] at hlt; exact absurd hlt (Nat.not_lt_zero _))
              rw [Value.slice.injEq] at hv2
              obtain ⟨rfl, _, rfl⟩ := hv2
              refine CW.skip ?_
              refine hK7 _ _ ?_
              refine CW.seq_k fun K9 hK9 => ?_
              refine CW.block ?_
              refine CW.seq_k fun K10 hK10 => ?_
              refine CW.draw mixed (by kernel_rfl) ?_
              refine QW.q rfl rfl (yq_fieldAddr rfl (by (conv => lhs; whnf) <;> rfl) tf46_1 ti44) ?_
              refine QW.q rfl rfl (yq_fieldAddr rfl (by (conv => lhs; whnf) <;> rfl) tf44_2 ti22) ?_
              refine QW.q rfl rfl (yq_load1 rfl (by (conv => lhs; whnf) <;> rfl) ti22 (by repeat' first | exact List.mem_cons_self .. | apply List.mem_cons_of_mem) (sg_35 a _)) ?_
              refine QW.q rfl rfl (yq_move rfl (by (conv => lhs; whnf) <;> rfl)) ?_
              refine QW.q rfl rfl (yq_index_slice rfl (by (conv => lhs; whnf) <;> rfl) (by (conv => lhs; whnf) <;> rfl) ts22 ti25 (by omega) (by omega)) ?_
              refine QW.q rfl rfl (yq_load_hs (i := j) (v := a.path.getD j zeroHash) rfl (by (conv => lhs; whnf) <;> rfl) ti25 (fun w hw => ha.mono hw) (at_of_lt hlt)) ?_
              refine QW.q rfl rfl (yq_fieldAddr rfl (by (conv => lhs; whnf) <;> rfl) tf46_1 ti44) ?_
              refine QW.q rfl rfl (yq_fieldAddr rfl (by (conv => lhs; whnf) <;> rfl) tf44_2 ti22) ?_
              refine QW.q rfl rfl (yq_load1 rfl (by (conv => lhs; whnf) <;> rfl) ti22 (by repeat' first | exact List.mem_cons_self .. | apply List.mem_cons_of_mem) (sg_35 b _)) ?_
              refine QW.q rfl rfl (yq_move rfl (by (conv => lhs; whnf) <;> rfl)) ?_
              refine QW.q rfl rfl (yq_index_slice rfl (by (conv => lhs; whnf) <;> rfl) (by (conv => lhs; whnf) <;> rfl) ts22 ti25 (by omega) (by omega)) ?_
              refine QW.q rfl rfl (yq_load_hs (i := j) (v := b.path.getD j zeroHash) rfl (by (conv => lhs; whnf) <;> rfl) ti25 (fun w hw => hb.mono hw) (at_of_lt (by omega))) ?_
              refine QW.q rfl rfl (yq_neq_H rfl (by (conv => lhs; whnf) <;> rfl) (by (conv => lhs; whnf) <;> rfl) ta25 Tryd.underlying5 ti5 eg25) ?_
              refine QW.nil ?_
              refine hK10 _ _ ?_
              refine CW.cond_dec (by (conv => lhs; whnf) <;> rfl) (fun hc4 => ?_) (fun hc4 => ?_)
              · refine CW.seq_k fun K11 hK11 => ?_
                refine CW.region ?_
                refine OW.q rfl rfl (yq_assign rfl (by (conv => lhs; whnf) <;> rfl)) ?_
                refine OW.nil ?_
                refine hK11 _ _ ?_
                refine CW.ret ?_
                refine blockQ_ret ?_
                refine then_ret ?_
                refine then_ret ?_
                refine blockQ_ret ?_
                refine then_ret ?_
                -- ret (ret)
                rw [decide_eq_false (show ¬ a = b from fun h => by subst h; exact hc4 rfl)]
                exact fin1 (Or.inr rfl) rfl ⟨by decide, (by (conv => lhs; whnf) <;> rfl)⟩ (fun w hw => ⟨rfl, hw.sub (List.nil_sublist _)⟩)
              · refine CW.skip ?_
                refine hK9 _ _ ?_
                refine CW.region ?_
                refine OW.q rfl rfl (yq_move rfl (by (conv => lhs; whnf) <;> rfl)) ?_
                refine OW.q rfl rfl (yq_add rfl (by (conv => lhs; whnf) <;> rfl) (by (conv => lhs; whnf) <;> rfl) (by omega)) ?_
                refine OW.q rfl rfl (yq_assign rfl (by (conv => lhs; whnf) <;> rfl)) ?_
                refine OW.nil ?_
                exact ⟨j + 1, ⟨Has.mk ⟨(by (conv => lhs; whnf) <;> rfl), (by (conv => lhs; whnf) <;> rfl), (by (conv => lhs; whnf) <;> rfl), trivial⟩, by omega, by rw [List.take_add_one, List.take_add_one, htk, at_of_lt hlt, at_of_lt (by omega), Decidable.byContradiction hc4], rfl⟩, by omega⟩
            · refine CW.exit ?_
              refine then_exit ?_
              refine then_exit ?_
              refine blockQ_hit ?_
              refine hK5 _ _ ?_
              refine CW.seq_k fun K12 hK12 => ?_
              refine CW.region ?_
              refine OW.q rfl rfl (yq_assign rfl (by (conv => lhs; whnf) <;> rfl)) ?_
              refine OW.nil ?_
              refine hK12 _ _ ?_
              refine CW.ret ?_
              -- ret (ret)
              have hp : a.path = b.path := by
                have h1 : a.path.take a.path.length = b.path.take a.path.length := by
                  rw [show a.path.length = j by omega]; exact htk
                rwa [List.take_length, hlen, List.take_length] at h1
              rw [decide_eq_true (sg_ext.2 ⟨q1, q2, q3, q4, hp⟩)]
              exact fin1 (Or.inr rfl) rfl ⟨by decide, (by (conv => lhs; whnf) <;> rfl)⟩ (fun w hw => ⟨rfl, hw.sub (List.nil_sublist _)⟩)
set_option maxRecDepth 100000 in
set_option maxHeartbeats 1000000 in
theorem put2_calls (s : Sg) (v : Value) (w : World) (hs : HsAt w v s.path) :
    Calls Tryd.prog 69 #[SgV s v] w fun e w' => e = .returned (.tuple #[.string (bs (putR s)), .int .i64 (putE s)]) ∧ Cl w [] [] w' := by
  have hs0 := hs
  obtain ⟨a0, cap0, rfl⟩ := hs0.len
  refine calls_of_CW (L := []) Tryd.func69 rfl (Nat.le_of_ble_eq_true rfl) (Cl.refl _) ?_
  refine CW.seq_k fun K1 hK1 => ?_
  refine CW.region ?_
  refine OW.box (cs := sgC s (.slice a0 s.path.length cap0)) rfl rfl rfl (by (conv => lhs; whnf) <;> rfl) rfl (fun b1 => ?_)
  refine OW.q rfl rfl (yq_assign rfl (by (conv => lhs; whnf) <;> rfl)) ?_
  refine OW.q rfl rfl (yq_assign rfl (by (conv => lhs; whnf) <;> rfl)) ?_
  refine OW.nil ?_
  refine hK1 _ _ ?_
  refine CW.seq_k fun K2 hK2 => ?_
  refine CW.seq_k fun K3 hK3 => ?_
  refine CW.region ?_
  refine OW.q rfl rfl (yq_loadW (cs := sgC s (.slice a0 s.path.length cap0)) rfl (by (conv => lhs; whnf) <;> rfl) (by rw [sgC_length]; exact ti46) (by repeat' first | exact List.mem_cons_self .. | apply List.mem_cons_of_mem)) ?_
  refine OW.q rfl rfl (yq_call rfl rfl (.cons (by (conv => lhs; whnf) <;> rfl) .nil) en70 (fun w hw => valid_calls s _ w (hs.mono hw))) ?_
  refine OW.q rfl rfl (yq_not rfl (by (conv => lhs; whnf) <;> rfl)) ?_
  refine OW.nil ?_
  refine hK3 _ _ ?_
  refine CW.cond (by (conv => lhs; whnf) <;> rfl) (fun hc0 => ?_) (fun hc0 => ?_)
  · have hno : ¬ s.valid := by simpa using hc0
    refine CW.seq_k fun K4 hK4 => ?_
    refine CW.region ?_
    refine OW.q rfl rfl (yq_assign rfl (by (conv => lhs; whnf) <;> rfl)) ?_
    refine OW.q rfl rfl (yq_assign rfl (by (conv => lhs; whnf) <;> rfl)) ?_
    refine OW.nil ?_
    refine hK4 _ _ ?_
    refine CW.ret ?_
    refine then_ret ?_
    -- ret (ret)
    rw [putR_not hno, putE_not hno]
    exact fin2 (Or.inr rfl) rfl ⟨by decide, (by (conv => lhs; whnf) <;> rfl)⟩ ⟨by decide, (by (conv => lhs; whnf) <;> rfl)⟩ (fun w hw => ⟨rfl, hw.sub (List.nil_sublist _)⟩)
  · have hok : s.valid := by simpa using hc0
    obtain ⟨v1, v2, v3, v4, v5, v6⟩ := id hok
    have n1 := numB_length (n := s.size.toNat) (by omega)
    have n2 := numB_length (n := s.index.toNat) (by omega)
    have n3 := textB_le s.sig (by omega)
    have n4 := hashesB_length s.path (by omega)
    refine CW.skip ?_
    refine hK2 _ _ ?_
    refine CW.seq_k fun K5 hK5 => ?_
    refine CW.draw mixed (by kernel_rfl) ?_
    refine QW.q rfl rfl (yq_fieldAddr rfl (by (conv => lhs; whnf) <;> rfl) tf46_0 ti33) ?_
    refine QW.q rfl rfl (yq_fieldAddr rfl (by (conv => lhs; whnf) <;> rfl) tf33_0 ti3) ?_
    refine QW.q rfl rfl (yq_load1 rfl (by (conv => lhs; whnf) <;> rfl) ti3 (by repeat' first | exact List.mem_cons_self .. | apply List.mem_cons_of_mem) (sg_0 s (.slice a0 s.path.length cap0))) ?_
    refine QW.q rfl rfl ((yq_conv_i64_u64 rfl Tryd.underlying3 Tryd.underlying147 (by (conv => lhs; whnf) <;> rfl) v1)) ?_
    refine QW.q rfl rfl (yq_call rfl rfl (.cons (by (conv => lhs; whnf) <;> rfl) .nil) en105 (fun w hw => num_c s.size.toNat w (by omega))) ?_
    refine QW.q rfl rfl (yq_fieldAddr rfl (by (conv => lhs; whnf) <;> rfl) tf46_0 ti33) ?_
    refine QW.q rfl rfl (yq_fieldAddr rfl (by (conv => lhs; whnf) <;> rfl) tf33_1 ti25) ?_
    refine QW.q rfl rfl (yq_loadA (vs := hc s.root) rfl (by (conv => lhs; whnf) <;> rfl) (by rw [hc_length]; exact ti25) (by repeat' first | exact List.mem_cons_self .. | apply List.mem_cons_of_mem) (fun j u hu => sg_root s (.slice a0 s.path.length cap0) j u hu)) ?_
    refine QW.q rfl rfl (yq_call rfl rfl (.cons (by (conv => lhs; whnf) <;> rfl) .nil) en103 (fun w hw => hash_calls _ w)) ?_
    refine QW.q rfl rfl (yq_add_bs rfl (by (conv => lhs; whnf) <;> rfl) (by (conv => lhs; whnf) <;> rfl) (by simp only [List.length_append, hb_length]; omega)) ?_
    refine QW.q rfl rfl (yq_fieldAddr rfl (by (conv => lhs; whnf) <;> rfl) tf46_1 ti44) ?_
    refine QW.q rfl rfl (yq_fieldAddr rfl (by (conv => lhs; whnf) <;> rfl) tf44_0 ti3) ?_
    refine QW.q rfl rfl (yq_load1 rfl (by (conv => lhs; whnf) <;> rfl) ti3 (by repeat' first | exact List.mem_cons_self .. | apply List.mem_cons_of_mem) (sg_33 s (.slice a0 s.path.length cap0))) ?_
    refine QW.q rfl rfl ((yq_conv_i64_u64 rfl Tryd.underlying3 Tryd.underlying147 (by (conv => lhs; whnf) <;> rfl) v3)) ?_
    refine QW.q rfl rfl (yq_call rfl rfl (.cons (by (conv => lhs; whnf) <;> rfl) .nil) en105 (fun w hw => num_c s.index.toNat w (by omega))) ?_
    refine QW.q rfl rfl (yq_add_bs rfl (by (conv => lhs; whnf) <;> rfl) (by (conv => lhs; whnf) <;> rfl) (by simp only [List.length_append, hb_length]; omega)) ?_
    refine QW.q rfl rfl (yq_fieldAddr rfl (by (conv => lhs; whnf) <;> rfl) tf46_1 ti44) ?_
    refine QW.q rfl rfl (yq_fieldAddr rfl (by (conv => lhs; whnf) <;> rfl) tf44_1 ti9) ?_
    refine QW.q rfl rfl (yq_load1 rfl (by (conv => lhs; whnf) <;> rfl) ti9 (by repeat' first | exact List.mem_cons_self .. | apply List.mem_cons_of_mem) (sg_34 s (.slice a0 s.path.length cap0))) ?_
    refine QW.q rfl rfl (yq_call rfl rfl (.cons (by (conv => lhs; whnf) <;> rfl) .nil) en106 (fun w hw => text_calls s.sig w (by omega))) ?_
    refine QW.q rfl rfl (yq_add_bs rfl (by (conv => lhs; whnf) <;> rfl) (by (conv => lhs; whnf) <;> rfl) (by simp only [List.length_append, hb_length]; omega)) ?_
    refine QW.q rfl rfl (yq_fieldAddr rfl (by (conv => lhs; whnf) <;> rfl) tf46_1 ti44) ?_
    refine QW.q rfl rfl (yq_fieldAddr rfl (by (conv => lhs; whnf) <;> rfl) tf44_2 ti22) ?_
    refine QW.q rfl rfl (yq_load1 rfl (by (conv => lhs; whnf) <;> rfl) ti22 (by repeat' first | exact List.mem_cons_self .. | apply List.mem_cons_of_mem) (sg_35 s (.slice a0 s.path.length cap0))) ?_
    refine QW.q rfl rfl (yq_call rfl rfl (.cons (by (conv => lhs; whnf) <;> rfl) .nil) en107 (fun w hw => hashes_calls _ s.path w (by omega) (hs.mono hw))) ?_
    refine QW.q rfl rfl (yq_add_bs rfl (by (conv => lhs; whnf) <;> rfl) (by (conv => lhs; whnf) <;> rfl) (by simp only [List.length_append, hb_length]; omega)) ?_
    refine QW.q rfl rfl (yq_assign rfl (by (conv => lhs; whnf) <;> rfl)) ?_
    refine QW.q rfl rfl (yq_assign rfl (by (conv => lhs; whnf) <;> rfl)) ?_
    refine QW.nil ?_
    refine hK5 _ _ ?_
    refine CW.ret ?_
    -- ret (ret)
    rw [putR_ok hok, putE_ok hok, headB_eq]
    exact fin2 (Or.inr rfl) rfl ⟨by decide, (by (conv => lhs; whnf) <;> rfl)⟩ ⟨by decide, (by (conv => lhs; whnf) <;> rfl)⟩ (fun w hw => ⟨rfl, hw.sub (List.nil_sublist _)⟩)
set_option maxRecDepth 100000 in
set_option maxHeartbeats 1000000 in
theorem refput2_calls (s : Sg) (v : Value) (w : World) (hs : HsAt w v s.path) :
    Calls Tryd.prog 64 #[SgV s v] w fun e w' => e = .returned (.tuple #[.string (bs (putR s)), .int .i64 (putE s)]) ∧ Cl w [] [] w' := by
  have hs0 := hs
  obtain ⟨a0, cap0, rfl⟩ := hs0.len
  refine calls_of_CW (L := []) Tryd.func64 rfl (Nat.le_of_ble_eq_true rfl) (Cl.refl _) ?_
  refine CW.seq_k fun K1 hK1 => ?_
  refine CW.region ?_
  refine OW.box (cs := sgC s (.slice a0 s.path.length cap0)) rfl rfl rfl (by (conv => lhs; whnf) <;> rfl) rfl (fun b1 => ?_)
  refine OW.q rfl rfl (yq_assign rfl (by (conv => lhs; whnf) <;> rfl)) ?_
  refine OW.q rfl rfl (yq_assign rfl (by (conv => lhs; whnf) <;> rfl)) ?_
  refine OW.nil ?_
  refine hK1 _ _ ?_
  refine CW.seq_k fun K2 hK2 => ?_
  refine CW.seq_k fun K3 hK3 => ?_
  refine CW.region ?_
  refine OW.q rfl rfl (yq_loadW (cs := sgC s (.slice a0 s.path.length cap0)) rfl (by (conv => lhs; whnf) <;> rfl) (by rw [sgC_length]; exact ti46) (by repeat' first | exact List.mem_cons_self .. | apply List.mem_cons_of_mem)) ?_
  refine OW.q rfl rfl (yq_call rfl rfl (.cons (by (conv => lhs; whnf) <;> rfl) .nil) en82 (fun w hw => refvalid_calls s _ w (hs.mono hw))) ?_
  refine OW.q rfl rfl (yq_not rfl (by (conv => lhs; whnf) <;> rfl)) ?_
  refine OW.nil ?_
  refine hK3 _ _ ?_
  refine CW.cond (by (conv => lhs; whnf) <;> rfl) (fun hc0 => ?_) (fun hc0 => ?_)
  · have hno : ¬ s.valid := by simpa using hc0
    refine CW.seq_k fun K4 hK4 => ?_
    refine CW.region ?_
    refine OW.q rfl rfl (yq_assign rfl (by (conv => lhs; whnf) <;> rfl)) ?_
    refine OW.q rfl rfl (yq_assign rfl (by (conv => lhs; whnf) <;> rfl)) ?_
    refine OW.nil ?_
    refine hK4 _ _ ?_
    refine CW.ret ?_
    refine then_ret ?_
    -- ret (ret)
    rw [putR_not hno, putE_not hno]
    exact fin2 (Or.inr rfl) rfl ⟨by decide, (by (conv => lhs; whnf) <;> rfl)⟩ ⟨by decide, (by (conv => lhs; whnf) <;> rfl)⟩ (fun w hw => ⟨rfl, hw.sub (List.nil_sublist _)⟩)
  · have hok : s.valid := by simpa using hc0
    obtain ⟨v1, v2, v3, v4, v5, v6⟩ := id hok
    have n1 := numB_length (n := s.size.toNat) (by omega)
    have n2 := numB_length (n := s.index.toNat) (by omega)
    have n3 := textB_le s.sig (by omega)
    have n4 := hashesB_length s.path (by omega)
    refine CW.skip ?_
    refine hK2 _ _ ?_
    refine CW.seq_k fun K5 hK5 => ?_
    refine CW.draw mixed (by kernel_rfl) ?_
    refine QW.q rfl rfl (yq_fieldAddr rfl (by (conv => lhs; whnf) <;> rfl) tf46_0 ti33) ?_
    refine QW.q rfl rfl (yq_fieldAddr rfl (by (conv => lhs; whnf) <;> rfl) tf33_0 ti3) ?_
    refine QW.q rfl rfl (yq_load1 rfl (by (conv => lhs; whnf) <;> rfl) ti3 (by repeat' first | exact List.mem_cons_self .. | apply List.mem_cons_of_mem) (sg_0 s (.slice a0 s.path.length cap0))) ?_
    refine QW.q rfl rfl ((yq_conv_i64_u64 rfl Tryd.underlying3 Tryd.underlying147 (by (conv => lhs; whnf) <;> rfl) v1)) ?_
    refine QW.q rfl rfl (yq_call rfl rfl (.cons (by (conv => lhs; whnf) <;> rfl) .nil) en131 (fun w hw => refnum_c s.size.toNat w (by omega))) ?_
    refine QW.q rfl rfl (yq_fieldAddr rfl (by (conv => lhs; whnf) <;> rfl) tf46_0 ti33) ?_
    refine QW.q rfl rfl (yq_fieldAddr rfl (by (conv => lhs; whnf) <;> rfl) tf33_1 ti25) ?_
    refine QW.q rfl rfl (yq_loadA (vs := hc s.root) rfl (by (conv => lhs; whnf) <;> rfl) (by rw [hc_length]; exact ti25) (by repeat' first | exact List.mem_cons_self .. | apply List.mem_cons_of_mem) (fun j u hu => sg_root s (.slice a0 s.path.length cap0) j u hu)) ?_
    refine QW.q rfl rfl (yq_call rfl rfl (.cons (by (conv => lhs; whnf) <;> rfl) .nil) en114 (fun w hw => refhash_calls _ w)) ?_
    refine QW.q rfl rfl (yq_add_bs rfl (by (conv => lhs; whnf) <;> rfl) (by (conv => lhs; whnf) <;> rfl) (by simp only [List.length_append, hb_length]; omega)) ?_
    refine QW.q rfl rfl (yq_fieldAddr rfl (by (conv => lhs; whnf) <;> rfl) tf46_1 ti44) ?_
    refine QW.q rfl rfl (yq_fieldAddr rfl (by (conv => lhs; whnf) <;> rfl) tf44_0 ti3) ?_
    refine QW.q rfl rfl (yq_load1 rfl (by (conv => lhs; whnf) <;> rfl) ti3 (by repeat' first | exact List.mem_cons_self .. | apply List.mem_cons_of_mem) (sg_33 s (.slice a0 s.path.length cap0))) ?_
    refine QW.q rfl rfl ((yq_conv_i64_u64 rfl Tryd.underlying3 Tryd.underlying147 (by (conv => lhs; whnf) <;> rfl) v3)) ?_
    refine QW.q rfl rfl (yq_call rfl rfl (.cons (by (conv => lhs; whnf) <;> rfl) .nil) en131 (fun w hw => refnum_c s.index.toNat w (by omega))) ?_
    refine QW.q rfl rfl (yq_add_bs rfl (by (conv => lhs; whnf) <;> rfl) (by (conv => lhs; whnf) <;> rfl) (by simp only [List.length_append, hb_length]; omega)) ?_
    refine QW.q rfl rfl (yq_fieldAddr rfl (by (conv => lhs; whnf) <;> rfl) tf46_1 ti44) ?_
    refine QW.q rfl rfl (yq_fieldAddr rfl (by (conv => lhs; whnf) <;> rfl) tf44_1 ti9) ?_
    refine QW.q rfl rfl (yq_load1 rfl (by (conv => lhs; whnf) <;> rfl) ti9 (by repeat' first | exact List.mem_cons_self .. | apply List.mem_cons_of_mem) (sg_34 s (.slice a0 s.path.length cap0))) ?_
    refine QW.q rfl rfl (yq_call rfl rfl (.cons (by (conv => lhs; whnf) <;> rfl) .nil) en126 (fun w hw => reftext_calls s.sig w (by omega))) ?_
    refine QW.q rfl rfl (yq_add_bs rfl (by (conv => lhs; whnf) <;> rfl) (by (conv => lhs; whnf) <;> rfl) (by simp only [List.length_append, hb_length]; omega)) ?_
    refine QW.q rfl rfl (yq_fieldAddr rfl (by (conv => lhs; whnf) <;> rfl) tf46_1 ti44) ?_
    refine QW.q rfl rfl (yq_fieldAddr rfl (by (conv => lhs; whnf) <;> rfl) tf44_2 ti22) ?_
    refine QW.q rfl rfl (yq_load1 rfl (by (conv => lhs; whnf) <;> rfl) ti22 (by repeat' first | exact List.mem_cons_self .. | apply List.mem_cons_of_mem) (sg_35 s (.slice a0 s.path.length cap0))) ?_
    refine QW.q rfl rfl (yq_call rfl rfl (.cons (by (conv => lhs; whnf) <;> rfl) .nil) en132 (fun w hw => refhashes_calls _ s.path w (by omega) (hs.mono hw))) ?_
    refine QW.q rfl rfl (yq_add_bs rfl (by (conv => lhs; whnf) <;> rfl) (by (conv => lhs; whnf) <;> rfl) (by simp only [List.length_append, hb_length]; omega)) ?_
    refine QW.q rfl rfl (yq_assign rfl (by (conv => lhs; whnf) <;> rfl)) ?_
    refine QW.q rfl rfl (yq_assign rfl (by (conv => lhs; whnf) <;> rfl)) ?_
    refine QW.nil ?_
    refine hK5 _ _ ?_
    refine CW.ret ?_
    -- ret (ret)
    rw [putR_ok hok, putE_ok hok, headB_eq]
    exact fin2 (Or.inr rfl) rfl ⟨by decide, (by (conv => lhs; whnf) <;> rfl)⟩ ⟨by decide, (by (conv => lhs; whnf) <;> rfl)⟩ (fun w hw => ⟨rfl, hw.sub (List.nil_sublist _)⟩)
def headChk (key : Hash) (s : Sg) : Int := if s.valid then (if verifyC key (digestL s.size s.root) s.index s.sig s.path = 0 then 0 else 81) else 2
set_option maxRecDepth 100000 in
set_option maxHeartbeats 1000000 in
theorem check2_calls (key : Hash) (s : Sg) (v : Value) (w : World) (hsl : s.sig.length ≤ 4294967296) (hpl : s.path.length ≤ 4294967296) (hs : HsAt w v s.path) (hg : GL w) :
    Calls Tryd.prog 83 #[HV key, SgV s v] w fun e w' => e = .returned (.int .i64 (headChk key s)) ∧ Cl w [] [] w' := by
  have hs0 := hs
  obtain ⟨a0, cap0, rfl⟩ := hs0.len
  refine calls_of_CW (L := []) Tryd.func83 rfl (Nat.le_of_ble_eq_true rfl) (Cl.refl _) ?_
  refine CW.seq_k fun K1 hK1 => ?_
  refine CW.region ?_
  refine OW.box (cs := hc key) rfl rfl rfl (by (conv => lhs; whnf) <;> rfl) rfl (fun b2 => ?_)
  refine OW.box (cs := sgC s (.slice a0 s.path.length cap0)) rfl rfl rfl (by (conv => lhs; whnf) <;> rfl) rfl (fun b3 => ?_)
  refine OW.q rfl rfl (yq_assign rfl (by (conv => lhs; whnf) <;> rfl)) ?_
  refine OW.nil ?_
  refine hK1 _ _ ?_
  refine CW.seq_k fun K2 hK2 => ?_
  refine CW.block ?_
  refine CW.seq_k fun K3 hK3 => ?_
  refine CW.region ?_
  refine OW.q rfl rfl (yq_loadW (cs := sgC s (.slice a0 s.path.length cap0)) rfl (by (conv => lhs; whnf) <;> rfl) (by rw [sgC_length]; exact ti46) (by repeat' first | exact List.mem_cons_self .. | apply List.mem_cons_of_mem)) ?_
  refine OW.q rfl rfl (yq_call rfl rfl (.cons (by (conv => lhs; whnf) <;> rfl) .nil) en70 (fun w hw => valid_calls s _ w (hs.mono hw))) ?_
  refine OW.q rfl rfl (yq_not rfl (by (conv => lhs; whnf) <;> rfl)) ?_
  refine OW.q rfl rfl (yq_assign rfl (by (conv => lhs; whnf) <;> rfl)) ?_
  refine OW.nil ?_
  refine hK3 _ _ ?_
  refine CW.cond (by (conv => lhs; whnf) <;> rfl) (fun hc1 => ?_) (fun hc1 => ?_)
  · have hno : ¬ s.valid := by simpa using hc1
    refine CW.seq_k fun K4 hK4 => ?_
    refine CW.region ?_
    refine OW.q rfl rfl (yq_assign rfl (by (conv => lhs; whnf) <;> rfl)) ?_
    refine OW.nil ?_
    refine hK4 _ _ ?_
    refine CW.ret ?_
    refine blockQ_ret ?_
    refine then_ret ?_
    -- ret (ret)
    rw [show headChk key s = 2 by unfold headChk; rw [if_neg hno]]
    exact fin1 (Or.inr rfl) rfl ⟨by decide, (by (conv => lhs; whnf) <;> rfl)⟩ (fun w hw => ⟨rfl, hw.sub (List.nil_sublist _)⟩)
  · have hok : s.valid := by simpa using hc1
    obtain ⟨v1, v2, v3, v4, v5, v6⟩ := id hok
    refine CW.seq_k fun K5 hK5 => ?_
    refine CW.draw mixed (by kernel_rfl) ?_
    refine QW.q rfl rfl ((yq_loadH (v := key) rfl (by (conv => lhs; whnf) <;> rfl) ti25 (by repeat' first | exact List.mem_cons_self .. | apply List.mem_cons_of_mem))) ?_
    refine QW.q rfl rfl (yq_fieldAddr rfl (by (conv => lhs; whnf) <;> rfl) tf46_0 ti33) ?_
    refine QW.q rfl rfl (yq_loadA (vs := headC s.size s.root) rfl (by (conv => lhs; whnf) <;> rfl) (by rw [headC_length]; exact ti33) (by repeat' first | exact List.mem_cons_self .. | apply List.mem_cons_of_mem) (fun j u hu => sg_head s (.slice a0 s.path.length cap0) j u hu)) ?_
    refine QW.q rfl rfl (yq_call rfl rfl (.cons (by (conv => lhs; whnf) <;> rfl) .nil) en80 (fun w hw => (by have := digest_calls s.size s.root w (Cl_gl0 hw hg); rwa [digestI_eq v1 (by omega)] at this))) ?_
    refine QW.q rfl rfl (yq_fieldAddr rfl (by (conv => lhs; whnf) <;> rfl) tf46_1 ti44) ?_
    refine QW.q rfl rfl (yq_loadA (vs := sealC s (.slice a0 s.path.length cap0)) rfl (by (conv => lhs; whnf) <;> rfl) ti44 (by repeat' first | exact List.mem_cons_self .. | apply List.mem_cons_of_mem) (fun j u hu => sg_seal s (.slice a0 s.path.length cap0) j u hu)) ?_
    refine QW.q rfl rfl (yq_call rfl rfl (.cons (by (conv => lhs; whnf) <;> rfl) ( .cons (by (conv => lhs; whnf) <;> rfl) ( .cons (by (conv => lhs; whnf) <;> rfl) .nil))) en78 (fun w hw => verify_calls key _ s.index s.sig _ s.path w (by omega) hpl (hs.mono hw) (Cl_gl0 hw hg))) ?_
    refine QW.q rfl rfl (yq_neq rfl (by (conv => lhs; whnf) <;> rfl) (by (conv => lhs; whnf) <;> rfl)) ?_
    refine QW.q rfl rfl (yq_assign rfl (by (conv => lhs; whnf) <;> rfl)) ?_
    refine QW.nil ?_
    refine hK5 _ _ ?_
    refine CW.cond_dec (by (conv => lhs; whnf) <;> rfl) (fun hc2 => ?_) (fun hc2 => ?_)
    · refine CW.seq_k fun K6 hK6 => ?_
      refine CW.region ?_
      refine OW.q rfl rfl (yq_assign rfl (by (conv => lhs; whnf) <;> rfl)) ?_
      refine OW.nil ?_
      refine hK6 _ _ ?_
      refine CW.ret ?_
      refine blockQ_ret ?_
      refine then_ret ?_
      -- ret (ret)
      rw [show headChk key s = 81 by unfold headChk; rw [if_pos hok, if_neg hc2]]
      exact fin1 (Or.inr rfl) rfl ⟨by decide, (by (conv => lhs; whnf) <;> rfl)⟩ (fun w hw => ⟨rfl, hw.sub (List.nil_sublist _)⟩)
    · refine CW.skip ?_
      refine hK2 _ _ ?_
      refine CW.seq_k fun K7 hK7 => ?_
      refine CW.region ?_
      refine OW.q rfl rfl (yq_assign rfl (by (conv => lhs; whnf) <;> rfl)) ?_
      refine OW.nil ?_
      refine hK7 _ _ ?_
      refine CW.ret ?_
      -- ret (ret)
      rw [show headChk key s = 0 by unfold headChk; rw [if_pos hok, if_pos (Decidable.byContradiction hc2)]]
      exact fin1 (Or.inr rfl) rfl ⟨by decide, (by (conv => lhs; whnf) <;> rfl)⟩ (fun w hw => ⟨rfl, hw.sub (List.nil_sublist _)⟩)
set_option maxRecDepth 100000 in
set_option maxHeartbeats 1000000 in
theorem refcheck2_calls (key : Hash) (s : Sg) (v : Value) (w : World) (hsl : s.sig.length ≤ 4294967296) (hpl : s.path.length ≤ 4294967296) (hs : HsAt w v s.path) :
    Calls Tryd.prog 84 #[HV key, SgV s v] w fun e w' => e = .returned (.int .i64 (headChk key s)) ∧ Cl w [] [] w' := by
  have hs0 := hs
  obtain ⟨a0, cap0, rfl⟩ := hs0.len
  refine calls_of_CW (L := []) Tryd.func84 rfl (Nat.le_of_ble_eq_true rfl) (Cl.refl _) ?_
  refine CW.seq_k fun K1 hK1 => ?_
  refine CW.region ?_
  refine OW.box (cs := hc key) rfl rfl rfl (by (conv => lhs; whnf) <;> rfl) rfl (fun b2 => ?_)
  refine OW.box (cs := sgC s (.slice a0 s.path.length cap0)) rfl rfl rfl (by (conv => lhs; whnf) <;> rfl) rfl (fun b3 => ?_)
  refine OW.q rfl rfl (yq_assign rfl (by (conv => lhs; whnf) <;> rfl)) ?_
  refine OW.nil ?_
  refine hK1 _ _ ?_
  refine CW.seq_k fun K2 hK2 => ?_
  refine CW.seq_k fun K3 hK3 => ?_
  refine CW.region ?_
  refine OW.q rfl rfl (yq_loadW (cs := sgC s (.slice a0 s.path.length cap0)) rfl (by (conv => lhs; whnf) <;> rfl) (by rw [sgC_length]; exact ti46) (by repeat' first | exact List.mem_cons_self .. | apply List.mem_cons_of_mem)) ?_
  refine OW.q rfl rfl (yq_call rfl rfl (.cons (by (conv => lhs; whnf) <;> rfl) .nil) en82 (fun w hw => refvalid_calls s _ w (hs.mono hw))) ?_
  refine OW.q rfl rfl (yq_not rfl (by (conv => lhs; whnf) <;> rfl)) ?_
  refine OW.nil ?_
  refine hK3 _ _ ?_
  refine CW.cond (by (conv => lhs; whnf) <;> rfl) (fun hc0 => ?_) (fun hc0 => ?_)
  · have hno : ¬ s.valid := by simpa using hc0
    refine CW.seq_k fun K4 hK4 => ?_
    refine CW.region ?_
    refine OW.q rfl rfl (yq_assign rfl (by (conv => lhs; whnf) <;> rfl)) ?_
    refine OW.nil ?_
    refine hK4 _ _ ?_
    refine CW.ret ?_
    refine then_ret ?_
    -- ret (ret)
    rw [show headChk key s = 2 by unfold headChk; rw [if_neg hno]]
    exact fin1 (Or.inr rfl) rfl ⟨by decide, (by (conv => lhs; whnf) <;> rfl)⟩ (fun w hw => ⟨rfl, hw.sub (List.nil_sublist _)⟩)
  · have hok : s.valid := by simpa using hc0
    obtain ⟨v1, v2, v3, v4, v5, v6⟩ := id hok
    refine CW.skip ?_
    refine hK2 _ _ ?_
    refine CW.seq_k fun K5 hK5 => ?_
    refine CW.seq_k fun K6 hK6 => ?_
    refine CW.draw mixed (by kernel_rfl) ?_
    refine QW.q rfl rfl ((yq_loadH (v := key) rfl (by (conv => lhs; whnf) <;> rfl) ti25 (by repeat' first | exact List.mem_cons_self .. | apply List.mem_cons_of_mem))) ?_
    refine QW.q rfl rfl (yq_fieldAddr rfl (by (conv => lhs; whnf) <;> rfl) tf46_0 ti33) ?_
    refine QW.q rfl rfl (yq_loadA (vs := headC s.size s.root) rfl (by (conv => lhs; whnf) <;> rfl) (by rw [headC_length]; exact ti33) (by repeat' first | exact List.mem_cons_self .. | apply List.mem_cons_of_mem) (fun j u hu => sg_head s (.slice a0 s.path.length cap0) j u hu)) ?_
    refine QW.q rfl rfl (yq_call rfl rfl (.cons (by (conv => lhs; whnf) <;> rfl) .nil) en81 (fun w hw => (by have := refdigest_calls s.size s.root w; rwa [digestI_eq v1 (by omega)] at this))) ?_
    refine QW.q rfl rfl (yq_fieldAddr rfl (by (conv => lhs; whnf) <;> rfl) tf46_1 ti44) ?_
    refine QW.q rfl rfl (yq_loadA (vs := sealC s (.slice a0 s.path.length cap0)) rfl (by (conv => lhs; whnf) <;> rfl) ti44 (by repeat' first | exact List.mem_cons_self .. | apply List.mem_cons_of_mem) (fun j u hu => sg_seal s (.slice a0 s.path.length cap0) j u hu)) ?_
    refine QW.q rfl rfl (yq_call rfl rfl (.cons (by (conv => lhs; whnf) <;> rfl) ( .cons (by (conv => lhs; whnf) <;> rfl) ( .cons (by (conv => lhs; whnf) <;> rfl) .nil))) en79 (fun w hw => refverify_calls key _ s.index s.sig _ s.path w (by omega) hpl (hs.mono hw))) ?_
    refine QW.q rfl rfl (yq_neq rfl (by (conv => lhs; whnf) <;> rfl) (by (conv => lhs; whnf) <;> rfl)) ?_
    refine QW.nil ?_
    refine hK6 _ _ ?_
    refine CW.cond_dec (by (conv => lhs; whnf) <;> rfl) (fun hc1 => ?_) (fun hc1 => ?_)
    · refine CW.seq_k fun K7 hK7 => ?_
      refine CW.region ?_
      refine OW.q rfl rfl (yq_assign rfl (by (conv => lhs; whnf) <;> rfl)) ?_
      refine OW.nil ?_
      refine hK7 _ _ ?_
      refine CW.ret ?_
      refine then_ret ?_
      -- ret (ret)
      rw [show headChk key s = 81 by unfold headChk; rw [if_pos hok, if_neg hc1]]
      exact fin1 (Or.inr rfl) rfl ⟨by decide, (by (conv => lhs; whnf) <;> rfl)⟩ (fun w hw => ⟨rfl, hw.sub (List.nil_sublist _)⟩)
    · refine CW.skip ?_
      refine hK5 _ _ ?_
      refine CW.seq_k fun K8 hK8 => ?_
      refine CW.region ?_
      refine OW.q rfl rfl (yq_assign rfl (by (conv => lhs; whnf) <;> rfl)) ?_
      refine OW.nil ?_
      refine hK8 _ _ ?_
      refine CW.ret ?_
      -- ret (ret)
      rw [show headChk key s = 0 by unfold headChk; rw [if_pos hok, if_pos (Decidable.byContradiction hc1)]]
      exact fin1 (Or.inr rfl) rfl ⟨by decide, (by (conv => lhs; whnf) <;> rfl)⟩ (fun w hw => ⟨rfl, hw.sub (List.nil_sublist _)⟩)
end Go.Proofs.YtahdekllphehkaaDoor
