/- Words turned round; no statement of the seat is proved here. -/
import Derived.Test.YtahdekllphehkaaDoorEn
import Derived.Test.YtahdekllphehkaaDoorS0
set_option linter.unusedVariables false
set_option linter.unusedSimpArgs false
namespace Go.Proofs.YtahdekllphehkaaDoor
open Go.WL Go.Spec

theorem turn_bits (k : Nat) (h1 : 1 ≤ k) (h2 : k ≤ 31) : bitsOf .and .u64 (IntKind.u64.wrap (-(k : Int))) 31 = ((32 - k : Nat) : Int) := by
  have h : ∀ k : Fin 32, 1 ≤ k.val → bitsOf .and .u64 (IntKind.u64.wrap (-(k.val : Int))) 31 = ((32 - k.val : Nat) : Int) := by decide +kernel
  exact h ⟨k, by omega⟩ h1
theorem turn_back (k : Nat) (h1 : 1 ≤ k) (h2 : k ≤ 31) : IntKind.u64.wrap (32 - ((32 - k : Nat) : Int)) = (k : Int) := by
  rw [wrap_u64]; omega

set_option maxRecDepth 100000 in
set_option maxHeartbeats 1000000 in
theorem rotl_calls (x : UInt32) (k : Nat) (w : World) (h1 : 1 ≤ k) (h2 : k ≤ 31) :
    Calls Tryd.prog 166 #[U32 x, .int .i64 (-(k : Int))] w fun e w' => e = .returned (U32 (rot x k)) ∧ Cl w [] [] w' := by
  have hs : 32 - k < 32 := by omega
  have hk : k < 32 := by omega
  refine calls_of_CW (L := []) Tryd.func166 rfl (Nat.le_of_ble_eq_true rfl) (Cl.refl _) ?_
  refine CW.seq_k fun K1 hK1 => ?_
  refine CW.region ?_
  refine OW.q rfl rfl (yq_assign rfl (by (conv => lhs; whnf) <;> rfl)) ?_
  refine OW.nil ?_
  refine hK1 _ _ ?_
  refine CW.seq_k fun K2 hK2 => ?_
  refine CW.region ?_
  refine OW.q rfl rfl (yq_move rfl (by (conv => lhs; whnf) <;> rfl)) ?_
  refine OW.q rfl rfl (yq_conv_int rfl Tryd.underlying3 Tryd.underlying192 (by (conv => lhs; whnf) <;> rfl) rfl) ?_
  refine OW.q rfl rfl (yq_and_e rfl (by (conv => lhs; whnf) <;> rfl) (by (conv => lhs; whnf) <;> rfl) (turn_bits k h1 h2)) ?_
  refine OW.q rfl rfl (yq_assign rfl (by (conv => lhs; whnf) <;> rfl)) ?_
  refine OW.nil ?_
  refine hK2 _ _ ?_
  refine CW.seq_k fun K3 hK3 => ?_
  refine CW.region ?_
  refine OW.q rfl rfl (yq_move rfl (by (conv => lhs; whnf) <;> rfl)) ?_
  refine OW.q rfl rfl (yq_move rfl (by (conv => lhs; whnf) <;> rfl)) ?_
  refine OW.q rfl rfl (yq_shl_u32 (s := 32 - k) rfl (by (conv => lhs; whnf) <;> rfl) (by (conv => lhs; whnf) <;> rfl) hs) ?_
  refine OW.q rfl rfl (yq_move rfl (by (conv => lhs; whnf) <;> rfl)) ?_
  refine OW.q rfl rfl (yq_move rfl (by (conv => lhs; whnf) <;> rfl)) ?_
  refine OW.q rfl rfl (yq_sub_e rfl (by (conv => lhs; whnf) <;> rfl) (by (conv => lhs; whnf) <;> rfl) (turn_back k h1 h2)) ?_
  refine OW.q rfl rfl (yq_shr_u32 (s := k) rfl (by (conv => lhs; whnf) <;> rfl) (by (conv => lhs; whnf) <;> rfl) hk) ?_
  refine OW.q rfl rfl (yq_or_u32 rfl (by (conv => lhs; whnf) <;> rfl) (by (conv => lhs; whnf) <;> rfl)) ?_
  refine OW.q rfl rfl (yq_assign rfl (by (conv => lhs; whnf) <;> rfl)) ?_
  refine OW.nil ?_
  refine hK3 _ _ ?_
  refine CW.ret ?_
  -- ret (ret)
  exact fin1 (Or.inr rfl) rfl ⟨by decide, rfl⟩ (fun w hw => ⟨by rw [rot, UInt32.or_comm]; rfl, hw⟩)

set_option maxRecDepth 100000 in
set_option maxHeartbeats 1000000 in
theorem right_calls (x : UInt32) (k : Nat) (w : World) (h1 : 1 ≤ k) (h2 : k ≤ 31) :
    Calls Tryd.prog 159 #[U32 x, .int .i64 (k : Int)] w fun e w' => e = .returned (U32 (rot x k)) ∧ Cl w [] [] w' := by
  have e32 : (k : Int) % 32 = (k : Int) := by omega
  refine calls_of_CW (L := []) Tryd.func159 rfl (Nat.le_of_ble_eq_true rfl) (Cl.refl _) ?_
  refine CW.seq_k fun K1 hK1 => ?_
  refine CW.region ?_
  refine OW.q rfl rfl (yq_assign rfl (by (conv => lhs; whnf) <;> rfl)) ?_
  refine OW.nil ?_
  refine hK1 _ _ ?_
  refine CW.seq_k fun K2 hK2 => ?_
  refine CW.region ?_
  refine OW.q rfl rfl (yq_move rfl (by (conv => lhs; whnf) <;> rfl)) ?_
  refine OW.q rfl rfl (yq_move rfl (by (conv => lhs; whnf) <;> rfl)) ?_
  refine OW.q rfl rfl (yq_rem rfl (by (conv => lhs; whnf) <;> rfl) (by (conv => lhs; whnf) <;> rfl) (by omega)) ?_
  refine OW.q rfl rfl (yq_neg rfl (by (conv => lhs; whnf) <;> rfl) (by omega)) ?_
  refine OW.q rfl rfl (yq_call rfl rfl (.cons (by (conv => lhs; whnf) <;> rfl) ( .cons (by (conv => lhs; whnf) <;> rfl) .nil)) en166 (fun w hw => by rw [e32]; exact rotl_calls x k w h1 h2)) ?_
  refine OW.q rfl rfl (yq_assign rfl (by (conv => lhs; whnf) <;> rfl)) ?_
  refine OW.nil ?_
  refine hK2 _ _ ?_
  refine CW.ret ?_
  -- ret (ret)
  exact fin1 (Or.inr rfl) rfl ⟨by decide, rfl⟩ (fun w hw => ⟨rfl, hw⟩)

set_option maxRecDepth 100000 in
set_option maxHeartbeats 1000000 in
theorem turn_calls (x : UInt32) (k : Nat) (w : World) (h1 : 1 ≤ k) (h2 : k ≤ 31) :
    Calls Tryd.prog 148 #[U32 x, .int .u32 (k : Int)] w fun e w' => e = .returned (U32 (rot x k)) ∧ Cl w [] [] w' := by
  have hs : 32 - k < 32 := by omega
  have hk : k < 32 := by omega
  refine calls_of_CW (L := []) Tryd.func148 rfl (Nat.le_of_ble_eq_true rfl) (Cl.refl _) ?_
  refine CW.seq_k fun K1 hK1 => ?_
  refine CW.region ?_
  refine OW.q rfl rfl (yq_assign rfl (by (conv => lhs; whnf) <;> rfl)) ?_
  refine OW.nil ?_
  refine hK1 _ _ ?_
  refine CW.seq_k fun K2 hK2 => ?_
  refine CW.region ?_
  refine OW.q rfl rfl (yq_move rfl (by (conv => lhs; whnf) <;> rfl)) ?_
  refine OW.q rfl rfl (yq_move rfl (by (conv => lhs; whnf) <;> rfl)) ?_
  refine OW.q rfl rfl (yq_shr_u32 (s := k) rfl (by (conv => lhs; whnf) <;> rfl) (by (conv => lhs; whnf) <;> rfl) hk) ?_
  refine OW.q rfl rfl (yq_move rfl (by (conv => lhs; whnf) <;> rfl)) ?_
  refine OW.q rfl rfl (yq_move rfl (by (conv => lhs; whnf) <;> rfl)) ?_
  refine OW.q rfl rfl (yq_sub_e (r := ((32 - k : Nat) : Int)) rfl (by (conv => lhs; whnf) <;> rfl) (by (conv => lhs; whnf) <;> rfl) (by rw [wrap_u32]; omega)) ?_
  refine OW.q rfl rfl (yq_shl_u32 (s := 32 - k) rfl (by (conv => lhs; whnf) <;> rfl) (by (conv => lhs; whnf) <;> rfl) hs) ?_
  refine OW.q rfl rfl (yq_or_u32 rfl (by (conv => lhs; whnf) <;> rfl) (by (conv => lhs; whnf) <;> rfl)) ?_
  refine OW.q rfl rfl (yq_assign rfl (by (conv => lhs; whnf) <;> rfl)) ?_
  refine OW.nil ?_
  refine hK2 _ _ ?_
  refine CW.ret ?_
  -- ret (ret)
  exact fin1 (Or.inr rfl) rfl ⟨by decide, rfl⟩ (fun w hw => ⟨rfl, hw⟩)

end Go.Proofs.YtahdekllphehkaaDoor
