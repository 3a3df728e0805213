/- Numbers and texts as bytes, bits; no statement of the seat is proved here. -/
import Derived.Test.YtahdekllphehkaaDoorQ0
import Derived.Test.YtahdekllphehkaaDoorS4
set_option linter.unusedVariables false
set_option linter.unusedSimpArgs false
namespace Go.Proofs.YtahdekllphehkaaDoor
open Go.WL Go.Spec

theorem m128 (x : UInt64) : (x % 128).toUInt8 = UInt8.ofNat (x.toNat % 128) := by
  apply UInt8.toNat_inj.1
  simp
theorem or128 (x : UInt64) : (x % 128).toUInt8 ||| 128 = UInt8.ofNat (x.toNat % 128 + 128) := by
  apply UInt8.toNat_inj.1
  rw [UInt8.toNat_or, m128, u8_nat (by omega), u8_nat (by omega)]
  have this : 128 + x.toNat % 128 = 128 ||| x.toNat % 128 := Nat.two_pow_add_eq_or_of_lt (i := 7) (b := x.toNat % 128) (by omega) 1
  rw [Nat.or_comm]
  show 128 ||| x.toNat % 128 = _
  omega
theorem add128 (x : UInt64) : (x % 128).toUInt8 + 128 = UInt8.ofNat (x.toNat % 128 + 128) := by
  apply UInt8.toNat_inj.1
  rw [UInt8.toNat_add, m128, u8_nat (by omega), u8_nat (by omega)]
  show (x.toNat % 128 + 128) % 256 = _
  omega
theorem d128 (x : UInt64) : (x / 128).toNat = x.toNat / 128 := by rw [UInt64.toNat_div]; rfl
theorem aheadB_le (x : UInt64) : (aheadB x.toNat).length ≤ 10 := (aheadB_length 9 x.toNat (by have := x.toNat_lt; have : (128 : Nat) ^ (9 + 1) = 1180591620717411303424 := by decide
                                                                                              omega)).2
theorem numB_le (x : UInt64) : (numB x.toNat).length ≤ 10 := (numB_length x.toNat_lt).2

set_option maxRecDepth 100000 in
set_option maxHeartbeats 1000000 in
theorem num_calls (x : UInt64) (w : World) : Calls Tryd.prog 105 #[U64 x] w fun e w' => e = .returned (.string (bs (numB x.toNat))) ∧ Cl w [] [] w' := by
  have hnl := numB_le x
  refine calls_of_CW (L := []) Tryd.func105 rfl (Nat.le_of_ble_eq_true rfl) (Cl.refl _) ?_
  refine CW.seq_k fun K1 hK1 => ?_
  refine CW.region ?_
  refine OW.q rfl rfl (yq_assign rfl (by (conv => lhs; whnf) <;> rfl)) ?_
  refine OW.nil ?_
  refine hK1 _ _ ?_
  refine CW.seq_k fun K2 hK2 => ?_
  refine CW.region ?_
  refine OW.q rfl rfl (yq_move rfl (by (conv => lhs; whnf) <;> rfl)) ?_
  refine OW.q rfl rfl (yq_rem_u64 (b := 128) rfl (by (conv => lhs; whnf) <;> rfl) (by (conv => lhs; whnf) <;> rfl) (by decide)) ?_
  refine OW.q rfl rfl (yq_conv_u64_u8 rfl Tryd.underlying147 Tryd.underlying5 (by (conv => lhs; whnf) <;> rfl)) ?_
  refine OW.slicelit (vs := [U8 (x % 128).toUInt8]) rfl rfl rfl rfl ts92 ti5 tz5 (by decide) rfl (by decide) (by simp [Value.cells]) (by decide) (cs := [U8 (x % 128).toUInt8]) rfl (fun bl => ?_)
  refine OW.toRow (k := 1) (size := 1) .head rfl (by decide) ?_
  refine OW.q rfl rfl (yq_assign rfl (by (conv => lhs; whnf) <;> rfl)) ?_
  refine OW.nil ?_
  refine hK2 _ _ ?_
  refine CW.seq_k fun K3 hK3 => ?_
  refine CW.seq_k fun K4 hK4 => ?_
  refine CW.region ?_
  refine OW.q rfl rfl (yq_move rfl (by (conv => lhs; whnf) <;> rfl)) ?_
  refine OW.q rfl rfl (yq_quo_u64 (b := 128) rfl (by (conv => lhs; whnf) <;> rfl) (by (conv => lhs; whnf) <;> rfl) (by decide)) ?_
  refine OW.q rfl rfl (yq_assign rfl (by (conv => lhs; whnf) <;> rfl)) ?_
  refine OW.nil ?_
  refine hK4 _ _ ?_
  refine CW.block ?_
  refine CW.loop (σ := UInt64 × Bytes) (fun q ρ L => match q with | (y, t) => ∃ a cap, Has ρ [(0, U64 y), (3, rowV a t.length cap)] ∧ L = [.row a cap t.length 5 1 (bc t)] ∧ 1 ≤ t.length ∧ numB x.toNat = (if y.toNat = 0 then t else aheadB y.toNat ++ t)) (fun q => q.1.toNat) ((x / 128, [(x % 128).toUInt8])) ?_ ?_
  · refine ⟨_, _, Has.mk ⟨(by (conv => lhs; whnf) <;> rfl), (by (conv => lhs; whnf) <;> rfl), trivial⟩, rfl, by simp, ?_⟩
    rw [d128, m128]
    by_cases hx : x.toNat < 128
    · rw [if_pos (by omega), numB_small hx, Nat.mod_eq_of_lt hx]
    · rw [if_neg (by omega), numB_more hx]
  · rintro ⟨y, t⟩ _ _ ⟨a, cap, ⟨ρ', rfl⟩, rfl, ht1, hnum⟩
    have ht10 : t.length ≤ 10 := by
      have := congrArg List.length hnum
      split at this
      · omega
      · rw [List.length_append] at this; omega
    refine CW.seq_k fun K5 hK5 => ?_
    refine CW.seq_k fun K6 hK6 => ?_
    refine CW.region ?_
    refine OW.q rfl rfl (yq_move rfl (by (conv => lhs; whnf) <;> rfl)) ?_
    refine OW.q rfl rfl (yq_gtr rfl (by (conv => lhs; whnf) <;> rfl) (by (conv => lhs; whnf) <;> rfl)) ?_
    refine OW.nil ?_
    refine hK6 _ _ ?_
    refine CW.cond_dec (by (conv => lhs; whnf) <;> rfl) (fun hc1 => ?_) (fun hc1 => ?_)
    · have hy0 : 0 < y.toNat := by omega
      refine CW.skip ?_
      refine hK5 _ _ ?_
      refine CW.seq_k fun K7 hK7 => ?_
      refine CW.block ?_
      refine CW.region ?_
      refine OW.q rfl rfl (yq_move rfl (by (conv => lhs; whnf) <;> rfl)) ?_
      refine OW.q rfl rfl (yq_rem_u64 (b := 128) rfl (by (conv => lhs; whnf) <;> rfl) (by (conv => lhs; whnf) <;> rfl) (by decide)) ?_
      refine OW.q rfl rfl (yq_conv_u64_u8 rfl Tryd.underlying147 Tryd.underlying5 (by (conv => lhs; whnf) <;> rfl)) ?_
      refine OW.q rfl rfl (yq_or_u8 (b := 128) rfl (by (conv => lhs; whnf) <;> rfl) (by (conv => lhs; whnf) <;> rfl)) ?_
      refine OW.slicelit (vs := [U8 ((y % 128).toUInt8 ||| 128)]) rfl rfl rfl rfl ts92 ti5 tz5 (by decide) rfl (by decide) (by simp [Value.cells]) (by decide) (cs := [U8 ((y % 128).toUInt8 ||| 128)]) rfl (fun bl => ?_)
      refine OW.toRow (k := 1) (size := 1) .head rfl (by decide) ?_
      refine OW.q rfl rfl (yq_move rfl (by (conv => lhs; whnf) <;> rfl)) ?_
      refine OW.appendRow (a := some bl) (cap := 1) (k := 1) rfl rfl rfl (by (conv => lhs; whnf) <;> rfl) (by (conv => lhs; whnf) <;> rfl) ts92 ti5 tz5 (by repeat' first | exact Del.head | apply Del.tail) (by repeat' first | exact List.mem_cons_self .. | apply List.mem_cons_of_mem) (bc_one t) rfl (by decide) (by simp only [maxLen]; omega) (by omega) (fun a' cap' => ?_)
      refine OW.drop (L' := [.row a' cap' (1 + t.length) 5 1 ([U8 ((y % 128).toUInt8 ||| 128)] ++ bc t)]) (by repeat' first | exact List.Sublist.refl _ | exact List.nil_sublist _ | apply List.Sublist.cons_cons | apply List.Sublist.cons) ?_
      rw [Nat.add_comm 1 t.length]
      refine OW.q rfl rfl (yq_assign rfl (by (conv => lhs; whnf) <;> rfl)) ?_
      refine OW.nil ?_
      refine hK7 _ _ ?_
      refine CW.region ?_
      refine OW.q rfl rfl (yq_move rfl (by (conv => lhs; whnf) <;> rfl)) ?_
      refine OW.q rfl rfl (yq_quo_u64 (b := 128) rfl (by (conv => lhs; whnf) <;> rfl) (by (conv => lhs; whnf) <;> rfl) (by decide)) ?_
      refine OW.q rfl rfl (yq_assign rfl (by (conv => lhs; whnf) <;> rfl)) ?_
      refine OW.nil ?_
      refine ⟨(y / 128, ((y % 128).toUInt8 ||| 128) :: t), ⟨a', cap', Has.mk ⟨(by (conv => lhs; whnf) <;> rfl), (by (conv => lhs; whnf) <;> rfl), trivial⟩, rfl, by simp, ?_⟩, by show (y / 128).toNat < y.toNat; rw [d128]; omega⟩
      rw [hnum, if_neg (by omega), d128, or128]
      by_cases hy : y.toNat < 128
      · rw [if_pos (by omega), aheadB_small hy, Nat.mod_eq_of_lt hy]; rfl
      · rw [if_neg (by omega), aheadB_more hy]; simp
    · have hy0 : y.toNat = 0 := by omega
      rw [if_pos hy0] at hnum
      refine CW.exit ?_
      refine then_exit ?_
      refine then_exit ?_
      refine blockQ_hit ?_
      refine hK3 _ _ ?_
      refine CW.seq_k fun K8 hK8 => ?_
      refine CW.region ?_
      refine OW.q rfl rfl (yq_move rfl (by (conv => lhs; whnf) <;> rfl)) ?_
      refine OW.know _ (know_row (List.mem_cons_self ..) ht1) ?_
      rintro ⟨g, rfl⟩
      refine OW.q rfl rfl (yq_conv_bytes (l := t) rfl ts92 Tryd.underlying5 tt9 (by (conv => lhs; whnf) <;> rfl) rfl (row_cells (List.mem_cons_self ..))) ?_
      refine OW.q rfl rfl (yq_assign rfl (by (conv => lhs; whnf) <;> rfl)) ?_
      refine OW.nil ?_
      refine hK8 _ _ ?_
      refine CW.ret ?_
      -- ret (ret)
      rw [hnum]
      exact fin1 (Or.inr rfl) rfl ⟨by decide, (by (conv => lhs; whnf) <;> rfl)⟩ (fun w hw => ⟨rfl, hw.sub (List.nil_sublist _)⟩)

def AheadP (m : Nat) : Prop := ∀ (x : UInt64) (w : World), x.toNat < m → Calls Tryd.prog 155 #[U64 x] w fun e w' => e = .returned (.string (bs (aheadB x.toNat))) ∧ Cl w [] [] w'

set_option maxRecDepth 100000 in
set_option maxHeartbeats 1000000 in
theorem ahead_step (m : Nat) (ih : AheadP m) : AheadP (m + 1) := by
  intro x w hm
  have hal := aheadB_le (x / 128)
  refine calls_of_CW (L := []) Tryd.func155 rfl (Nat.le_of_ble_eq_true rfl) (Cl.refl _) ?_
  refine CW.seq_k fun K1 hK1 => ?_
  refine CW.region ?_
  refine OW.q rfl rfl (yq_assign rfl (by (conv => lhs; whnf) <;> rfl)) ?_
  refine OW.nil ?_
  refine hK1 _ _ ?_
  refine CW.seq_k fun K2 hK2 => ?_
  refine CW.region ?_
  refine OW.q rfl rfl (yq_move rfl (by (conv => lhs; whnf) <;> rfl)) ?_
  refine OW.q rfl rfl (yq_rem_u64 (b := 128) rfl (by (conv => lhs; whnf) <;> rfl) (by (conv => lhs; whnf) <;> rfl) (by decide)) ?_
  refine OW.q rfl rfl (yq_conv_u64_u8 rfl Tryd.underlying147 Tryd.underlying5 (by (conv => lhs; whnf) <;> rfl)) ?_
  refine OW.q rfl rfl (yq_add_u8 (b := 128) rfl (by (conv => lhs; whnf) <;> rfl) (by (conv => lhs; whnf) <;> rfl)) ?_
  refine OW.slicelit (vs := [U8 ((x % 128).toUInt8 + 128)]) rfl rfl rfl rfl ts92 ti5 tz5 (by decide) rfl (by decide) (by simp [Value.cells]) (by decide) (cs := [U8 ((x % 128).toUInt8 + 128)]) rfl (fun bl => ?_)
  refine OW.q rfl rfl (yq_conv_bytes (l := [(x % 128).toUInt8 + 128]) rfl ts92 Tryd.underlying5 tt9 (by (conv => lhs; whnf) <;> rfl) rfl (blk_cells (cs := bc ([(x % 128).toUInt8 + 128])) (by repeat' first | exact List.mem_cons_self .. | apply List.mem_cons_of_mem))) ?_
  refine OW.q rfl rfl (yq_assign rfl (by (conv => lhs; whnf) <;> rfl)) ?_
  refine OW.nil ?_
  refine hK2 _ _ ?_
  refine CW.seq_k fun K3 hK3 => ?_
  refine CW.seq_k fun K4 hK4 => ?_
  refine CW.region ?_
  refine OW.q rfl rfl (yq_move rfl (by (conv => lhs; whnf) <;> rfl)) ?_
  refine OW.q rfl rfl (yq_lss rfl (by (conv => lhs; whnf) <;> rfl) (by (conv => lhs; whnf) <;> rfl)) ?_
  refine OW.nil ?_
  refine hK4 _ _ ?_
  refine CW.cond_dec (by (conv => lhs; whnf) <;> rfl) (fun hc0 => ?_) (fun hc0 => ?_)
  · refine CW.seq_k fun K5 hK5 => ?_
    refine CW.region ?_
    refine OW.q rfl rfl (yq_move rfl (by (conv => lhs; whnf) <;> rfl)) ?_
    refine OW.q rfl rfl (yq_assign rfl (by (conv => lhs; whnf) <;> rfl)) ?_
    refine OW.nil ?_
    refine hK5 _ _ ?_
    refine CW.ret ?_
    refine then_ret ?_
    -- ret (ret)
    rw [aheadB_small (by omega)]
    rw [add128, Nat.mod_eq_of_lt (by omega)]
    exact fin1 (Or.inr rfl) rfl ⟨by decide, (by (conv => lhs; whnf) <;> rfl)⟩ (fun w hw => ⟨rfl, hw.sub (List.nil_sublist _)⟩)
  · refine CW.skip ?_
    refine hK3 _ _ ?_
    refine CW.seq_k fun K6 hK6 => ?_
    refine CW.region ?_
    refine OW.q rfl rfl (yq_move rfl (by (conv => lhs; whnf) <;> rfl)) ?_
    refine OW.q rfl rfl (yq_quo_u64 (b := 128) rfl (by (conv => lhs; whnf) <;> rfl) (by (conv => lhs; whnf) <;> rfl) (by decide)) ?_
    refine OW.q rfl rfl (yq_call rfl rfl (.cons (by (conv => lhs; whnf) <;> rfl) .nil) en155 (fun w hw => ih (x / 128) w (by rw [d128]; omega))) ?_
    refine OW.q rfl rfl (yq_move rfl (by (conv => lhs; whnf) <;> rfl)) ?_
    refine OW.q rfl rfl (yq_add_bs rfl (by (conv => lhs; whnf) <;> rfl) (by (conv => lhs; whnf) <;> rfl) (by simp only [List.length_singleton]; omega)) ?_
    refine OW.q rfl rfl (yq_assign rfl (by (conv => lhs; whnf) <;> rfl)) ?_
    refine OW.nil ?_
    refine hK6 _ _ ?_
    refine CW.ret ?_
    -- ret (ret)
    rw [aheadB_more (by omega)]
    rw [add128, d128]
    exact fin1 (Or.inr rfl) rfl ⟨by decide, (by (conv => lhs; whnf) <;> rfl)⟩ (fun w hw => ⟨rfl, hw.sub (List.nil_sublist _)⟩)

theorem ahead_calls (x : UInt64) (w : World) : Calls Tryd.prog 155 #[U64 x] w fun e w' => e = .returned (.string (bs (aheadB x.toNat))) ∧ Cl w [] [] w' := by
  have : ∀ m, AheadP m := by
    intro m
    induction m with
    | zero => intro x w h; omega
    | succ m ih => exact ahead_step m ih
  exact this (x.toNat + 1) x w (by omega)

set_option maxRecDepth 100000 in
set_option maxHeartbeats 1000000 in
theorem refnum_calls (x : UInt64) (w : World) : Calls Tryd.prog 131 #[U64 x] w fun e w' => e = .returned (.string (bs (numB x.toNat))) ∧ Cl w [] [] w' := by
  have hal := aheadB_le (x / 128)
  refine calls_of_CW (L := []) Tryd.func131 rfl (Nat.le_of_ble_eq_true rfl) (Cl.refl _) ?_
  refine CW.seq_k fun K1 hK1 => ?_
  refine CW.region ?_
  refine OW.q rfl rfl (yq_assign rfl (by (conv => lhs; whnf) <;> rfl)) ?_
  refine OW.nil ?_
  refine hK1 _ _ ?_
  refine CW.seq_k fun K2 hK2 => ?_
  refine CW.seq_k fun K3 hK3 => ?_
  refine CW.region ?_
  refine OW.q rfl rfl (yq_move rfl (by (conv => lhs; whnf) <;> rfl)) ?_
  refine OW.q rfl rfl (yq_lss rfl (by (conv => lhs; whnf) <;> rfl) (by (conv => lhs; whnf) <;> rfl)) ?_
  refine OW.nil ?_
  refine hK3 _ _ ?_
  refine CW.cond_dec (by (conv => lhs; whnf) <;> rfl) (fun hc0 => ?_) (fun hc0 => ?_)
  · refine CW.seq_k fun K4 hK4 => ?_
    refine CW.region ?_
    refine OW.q rfl rfl (yq_move rfl (by (conv => lhs; whnf) <;> rfl)) ?_
    refine OW.q rfl rfl (yq_conv_u64_u8 rfl Tryd.underlying147 Tryd.underlying5 (by (conv => lhs; whnf) <;> rfl)) ?_
    refine OW.slicelit (vs := [U8 x.toUInt8]) rfl rfl rfl rfl ts92 ti5 tz5 (by decide) rfl (by decide) (by simp [Value.cells]) (by decide) (cs := [U8 x.toUInt8]) rfl (fun bl => ?_)
    refine OW.q rfl rfl (yq_conv_bytes (l := [x.toUInt8]) rfl ts92 Tryd.underlying5 tt9 (by (conv => lhs; whnf) <;> rfl) rfl (blk_cells (cs := bc ([x.toUInt8])) (by repeat' first | exact List.mem_cons_self .. | apply List.mem_cons_of_mem))) ?_
    refine OW.q rfl rfl (yq_assign rfl (by (conv => lhs; whnf) <;> rfl)) ?_
    refine OW.nil ?_
    refine hK4 _ _ ?_
    refine CW.ret ?_
    refine then_ret ?_
    -- ret (ret)
    rw [numB_small (by omega), show UInt8.ofNat x.toNat = x.toUInt8 from rfl]
    exact fin1 (Or.inr rfl) rfl ⟨by decide, (by (conv => lhs; whnf) <;> rfl)⟩ (fun w hw => ⟨rfl, hw.sub (List.nil_sublist _)⟩)
  · refine CW.skip ?_
    refine hK2 _ _ ?_
    refine CW.cutR (fun ρ L => Has ρ [(2, .string (bs (aheadB (x / 128).toNat ++ [(x % 128).toUInt8])))]) ?_ ?_
    · refine CW.held ([]) mixed ?_
      refine HW.take 0 rfl (by kernel_rfl) (by kernel_rfl) (by kernel_rfl) rfl rfl (by repeat' first | exact List.Sublist.refl _ | exact List.nil_sublist _ | apply List.Sublist.cons_cons | apply List.Sublist.cons) (yv_of_yq rfl (yq_move rfl (by (conv => lhs; whnf) <;> rfl))) ?_
      refine HW.take 1 rfl (by kernel_rfl) (by kernel_rfl) (by kernel_rfl) rfl rfl (by repeat' first | exact List.Sublist.refl _ | exact List.nil_sublist _ | apply List.Sublist.cons_cons | apply List.Sublist.cons) (yv_of_yq rfl (yq_quo_u64 (b := 128) rfl (by (conv => lhs; whnf) <;> rfl) (by (conv => lhs; whnf) <;> rfl) (by decide))) ?_
      refine HW.take 3 rfl (by kernel_rfl) (by kernel_rfl) (by kernel_rfl) rfl rfl (by repeat' first | exact List.Sublist.refl _ | exact List.nil_sublist _ | apply List.Sublist.cons_cons | apply List.Sublist.cons) (yv_of_yq rfl (yq_move rfl (by (conv => lhs; whnf) <;> rfl))) ?_
      refine HW.take 4 rfl (by kernel_rfl) (by kernel_rfl) (by kernel_rfl) rfl rfl (by repeat' first | exact List.Sublist.refl _ | exact List.nil_sublist _ | apply List.Sublist.cons_cons | apply List.Sublist.cons) (yv_of_yq rfl (yq_rem_u64 (b := 128) rfl (by (conv => lhs; whnf) <;> rfl) (by (conv => lhs; whnf) <;> rfl) (by decide))) ?_
      refine HW.take 5 rfl (by kernel_rfl) (by kernel_rfl) (by kernel_rfl) rfl rfl (by repeat' first | exact List.Sublist.refl _ | exact List.nil_sublist _ | apply List.Sublist.cons_cons | apply List.Sublist.cons) (yv_of_yq rfl (yq_conv_u64_u8 rfl Tryd.underlying147 Tryd.underlying5 (by (conv => lhs; whnf) <;> rfl))) ?_
      refine HW.two 2 6 (by kernel_rfl) rfl rfl ?_ ?_
      · refine OW.q rfl rfl (yq_call rfl rfl (.cons (by (conv => lhs; whnf) <;> rfl) .nil) en155 (fun w hw => ahead_calls (x / 128) w)) ?_
        refine OW.nil ⟨rfl, (by repeat' first | exact List.Sublist.refl _ | exact List.nil_sublist _ | apply List.Sublist.cons_cons | apply List.Sublist.cons), ?_⟩
        refine HW.one 6 (by kernel_rfl) rfl ?_
        refine OW.slicelit (vs := [U8 (x % 128).toUInt8]) rfl rfl rfl rfl ts92 ti5 tz5 (by decide) rfl (by decide) (by simp [Value.cells]) (by decide) (cs := [U8 (x % 128).toUInt8]) rfl (fun bl => ?_)
        refine OW.nil ⟨rfl, (by repeat' first | exact List.Sublist.refl _ | exact List.nil_sublist _ | apply List.Sublist.cons_cons | apply List.Sublist.cons), ?_⟩
        refine HW.one 7 (by kernel_rfl) rfl ?_
        refine OW.q rfl rfl (yq_conv_bytes (l := [(x % 128).toUInt8]) rfl ts92 Tryd.underlying5 tt9 (by (conv => lhs; whnf) <;> rfl) rfl (blk_cells (cs := bc ([(x % 128).toUInt8])) (by repeat' first | exact List.mem_cons_self .. | apply List.mem_cons_of_mem))) ?_
        refine OW.nil ⟨rfl, (by repeat' first | exact List.Sublist.refl _ | exact List.nil_sublist _ | apply List.Sublist.cons_cons | apply List.Sublist.cons), ?_⟩
        refine HW.take 8 rfl (by kernel_rfl) (by kernel_rfl) (by kernel_rfl) rfl rfl (by repeat' first | exact List.Sublist.refl _ | exact List.nil_sublist _ | apply List.Sublist.cons_cons | apply List.Sublist.cons) (yv_of_yq rfl (yq_add_bs rfl (by (conv => lhs; whnf) <;> rfl) (by (conv => lhs; whnf) <;> rfl) (by simp only [List.length_singleton]; omega))) ?_
        refine HW.take 9 rfl (by kernel_rfl) (by kernel_rfl) (by kernel_rfl) rfl rfl (by repeat' first | exact List.Sublist.refl _ | exact List.nil_sublist _ | apply List.Sublist.cons_cons | apply List.Sublist.cons) (yv_of_yq rfl (yq_assign rfl (by (conv => lhs; whnf) <;> rfl))) ?_
        refine HW.done (by kernel_rfl) ?_
        exact ⟨rfl, Has.mk ⟨(by (conv => lhs; whnf) <;> rfl), trivial⟩⟩
      · refine OW.slicelit (vs := [U8 (x % 128).toUInt8]) rfl rfl rfl rfl ts92 ti5 tz5 (by decide) rfl (by decide) (by simp [Value.cells]) (by decide) (cs := [U8 (x % 128).toUInt8]) rfl (fun bl => ?_)
        refine OW.nil ⟨rfl, (by repeat' first | exact List.Sublist.refl _ | exact List.nil_sublist _ | apply List.Sublist.cons_cons | apply List.Sublist.cons), ?_⟩
        refine HW.two 2 7 (by kernel_rfl) rfl rfl ?_ ?_
        · refine OW.q rfl rfl (yq_call rfl rfl (.cons (by (conv => lhs; whnf) <;> rfl) .nil) en155 (fun w hw => ahead_calls (x / 128) w)) ?_
          refine OW.nil ⟨rfl, (by repeat' first | exact List.Sublist.refl _ | exact List.nil_sublist _ | apply List.Sublist.cons_cons | apply List.Sublist.cons), ?_⟩
          refine HW.one 7 (by kernel_rfl) rfl ?_
          refine OW.q rfl rfl (yq_conv_bytes (l := [(x % 128).toUInt8]) rfl ts92 Tryd.underlying5 tt9 (by (conv => lhs; whnf) <;> rfl) rfl (blk_cells (cs := bc ([(x % 128).toUInt8])) (by repeat' first | exact List.mem_cons_self .. | apply List.mem_cons_of_mem))) ?_
          refine OW.nil ⟨rfl, (by repeat' first | exact List.Sublist.refl _ | exact List.nil_sublist _ | apply List.Sublist.cons_cons | apply List.Sublist.cons), ?_⟩
          refine HW.take 8 rfl (by kernel_rfl) (by kernel_rfl) (by kernel_rfl) rfl rfl (by repeat' first | exact List.Sublist.refl _ | exact List.nil_sublist _ | apply List.Sublist.cons_cons | apply List.Sublist.cons) (yv_of_yq rfl (yq_add_bs rfl (by (conv => lhs; whnf) <;> rfl) (by (conv => lhs; whnf) <;> rfl) (by simp only [List.length_singleton]; omega))) ?_
          refine HW.take 9 rfl (by kernel_rfl) (by kernel_rfl) (by kernel_rfl) rfl rfl (by repeat' first | exact List.Sublist.refl _ | exact List.nil_sublist _ | apply List.Sublist.cons_cons | apply List.Sublist.cons) (yv_of_yq rfl (yq_assign rfl (by (conv => lhs; whnf) <;> rfl))) ?_
          refine HW.done (by kernel_rfl) ?_
          exact ⟨rfl, Has.mk ⟨(by (conv => lhs; whnf) <;> rfl), trivial⟩⟩
        · refine OW.q rfl rfl (yq_conv_bytes (l := [(x % 128).toUInt8]) rfl ts92 Tryd.underlying5 tt9 (by (conv => lhs; whnf) <;> rfl) rfl (blk_cells (cs := bc ([(x % 128).toUInt8])) (by repeat' first | exact List.mem_cons_self .. | apply List.mem_cons_of_mem))) ?_
          refine OW.nil ⟨rfl, (by repeat' first | exact List.Sublist.refl _ | exact List.nil_sublist _ | apply List.Sublist.cons_cons | apply List.Sublist.cons), ?_⟩
          refine HW.one 2 (by kernel_rfl) rfl ?_
          refine OW.q rfl rfl (yq_call rfl rfl (.cons (by (conv => lhs; whnf) <;> rfl) .nil) en155 (fun w hw => ahead_calls (x / 128) w)) ?_
          refine OW.nil ⟨rfl, (by repeat' first | exact List.Sublist.refl _ | exact List.nil_sublist _ | apply List.Sublist.cons_cons | apply List.Sublist.cons), ?_⟩
          refine HW.take 8 rfl (by kernel_rfl) (by kernel_rfl) (by kernel_rfl) rfl rfl (by repeat' first | exact List.Sublist.refl _ | exact List.nil_sublist _ | apply List.Sublist.cons_cons | apply List.Sublist.cons) (yv_of_yq rfl (yq_add_bs rfl (by (conv => lhs; whnf) <;> rfl) (by (conv => lhs; whnf) <;> rfl) (by simp only [List.length_singleton]; omega))) ?_
          refine HW.take 9 rfl (by kernel_rfl) (by kernel_rfl) (by kernel_rfl) rfl rfl (by repeat' first | exact List.Sublist.refl _ | exact List.nil_sublist _ | apply List.Sublist.cons_cons | apply List.Sublist.cons) (yv_of_yq rfl (yq_assign rfl (by (conv => lhs; whnf) <;> rfl))) ?_
          refine HW.done (by kernel_rfl) ?_
          exact ⟨rfl, Has.mk ⟨(by (conv => lhs; whnf) <;> rfl), trivial⟩⟩
    · rintro _ _ ⟨ρ', rfl⟩
      refine CW.ret ?_
      -- ret (ret)
      rw [numB_more (by omega), ← m128, ← d128]
      exact fin1 (Or.inr rfl) rfl ⟨by decide, (by (conv => lhs; whnf) <;> rfl)⟩ (fun w hw => ⟨rfl, hw.sub (List.nil_sublist _)⟩)

theorem textB_eq (s : Bytes) : textB s = numB s.length ++ s := by unfold textB; rfl
theorem u64_len {k : Nat} (h : k ≤ 4294967296) : (UInt64.ofNat k).toNat = k := by rw [UInt64.toNat_ofNat']; omega

set_option maxRecDepth 100000 in
set_option maxHeartbeats 1000000 in
theorem text_calls (s : Bytes) (w : World) (hs : s.length ≤ 4294967296) : Calls Tryd.prog 106 #[.string (bs s)] w fun e w' => e = .returned (.string (bs (textB s))) ∧ Cl w [] [] w' := by
  have hl := u64_len hs
  have hnl := numB_le (UInt64.ofNat s.length)
  refine calls_of_CW (L := []) Tryd.func106 rfl (Nat.le_of_ble_eq_true rfl) (Cl.refl _) ?_
  refine CW.seq_k fun K1 hK1 => ?_
  refine CW.region ?_
  refine OW.q rfl rfl (yq_assign rfl (by (conv => lhs; whnf) <;> rfl)) ?_
  refine OW.nil ?_
  refine hK1 _ _ ?_
  refine CW.seq_k fun K2 hK2 => ?_
  refine CW.region ?_
  refine OW.q rfl rfl (yq_move rfl (by (conv => lhs; whnf) <;> rfl)) ?_
  refine OW.q rfl rfl (yq_len_bs rfl tt9 (by (conv => lhs; whnf) <;> rfl)) ?_
  refine OW.q rfl rfl ((yq_conv_i64_u64 rfl Tryd.underlying3 Tryd.underlying147 (by (conv => lhs; whnf) <;> rfl) (by omega))) ?_
  refine OW.q rfl rfl (yq_call rfl rfl (.cons (by (conv => lhs; whnf) <;> rfl) .nil) en105 (fun w hw => num_calls (UInt64.ofNat s.length) w)) ?_
  refine OW.q rfl rfl (yq_move rfl (by (conv => lhs; whnf) <;> rfl)) ?_
  refine OW.q rfl rfl (yq_add_bs rfl (by (conv => lhs; whnf) <;> rfl) (by (conv => lhs; whnf) <;> rfl) (by omega)) ?_
  refine OW.q rfl rfl (yq_assign rfl (by (conv => lhs; whnf) <;> rfl)) ?_
  refine OW.nil ?_
  refine hK2 _ _ ?_
  refine CW.ret ?_
  -- ret (ret)
  have e : numB (UInt64.ofNat s.length).toNat = numB s.length := by rw [hl]
  rw [textB_eq]
  exact fin1 (Or.inr rfl) rfl ⟨by decide, (by (conv => lhs; whnf) <;> rfl)⟩ (fun w hw => ⟨congrArg (fun t => Ending.returned (.string (bs (t ++ s)))) e, hw⟩)

set_option maxRecDepth 100000 in
set_option maxHeartbeats 1000000 in
theorem reftext_calls (s : Bytes) (w : World) (hs : s.length ≤ 4294967296) : Calls Tryd.prog 126 #[.string (bs s)] w fun e w' => e = .returned (.string (bs (textB s))) ∧ Cl w [] [] w' := by
  have hl := u64_len hs
  have hnl := numB_le (UInt64.ofNat s.length)
  refine calls_of_CW (L := []) Tryd.func126 rfl (Nat.le_of_ble_eq_true rfl) (Cl.refl _) ?_
  refine CW.seq_k fun K1 hK1 => ?_
  refine CW.region ?_
  refine OW.q rfl rfl (yq_assign rfl (by (conv => lhs; whnf) <;> rfl)) ?_
  refine OW.nil ?_
  refine hK1 _ _ ?_
  refine CW.seq_k fun K2 hK2 => ?_
  refine CW.region ?_
  refine OW.q rfl rfl (yq_move rfl (by (conv => lhs; whnf) <;> rfl)) ?_
  refine OW.q rfl rfl (yq_len_bs rfl tt9 (by (conv => lhs; whnf) <;> rfl)) ?_
  refine OW.q rfl rfl ((yq_conv_i64_u64 rfl Tryd.underlying3 Tryd.underlying147 (by (conv => lhs; whnf) <;> rfl) (by omega))) ?_
  refine OW.q rfl rfl (yq_call rfl rfl (.cons (by (conv => lhs; whnf) <;> rfl) .nil) en131 (fun w hw => refnum_calls (UInt64.ofNat s.length) w)) ?_
  refine OW.q rfl rfl (yq_move rfl (by (conv => lhs; whnf) <;> rfl)) ?_
  refine OW.q rfl rfl (yq_add_bs rfl (by (conv => lhs; whnf) <;> rfl) (by (conv => lhs; whnf) <;> rfl) (by omega)) ?_
  refine OW.q rfl rfl (yq_assign rfl (by (conv => lhs; whnf) <;> rfl)) ?_
  refine OW.nil ?_
  refine hK2 _ _ ?_
  refine CW.ret ?_
  -- ret (ret)
  have e : numB (UInt64.ofNat s.length).toNat = numB s.length := by rw [hl]
  rw [textB_eq]
  exact fin1 (Or.inr rfl) rfl ⟨by decide, (by (conv => lhs; whnf) <;> rfl)⟩ (fun w hw => ⟨congrArg (fun t => Ending.returned (.string (bs (t ++ s)))) e, hw⟩)

theorem shr8_eq (n : UInt64) (i : Nat) : shr8 n i / 256 = shr8 n (i + 1) := by
  show _ = shr8 n i >>> 8
  apply UInt64.toNat_inj.1
  rw [UInt64.toNat_div, UInt64.toNat_shiftRight]
  show _ / 256 = _ >>> 8
  rw [Nat.shiftRight_eq_div_pow]
theorem mod256 (x : UInt64) : (x % 256).toUInt8 = x.toUInt8 := by
  apply UInt8.toNat_inj.1
  simp

set_option maxRecDepth 100000 in
set_option maxHeartbeats 1000000 in
theorem refput_calls (n : UInt64) (k : Nat) (w : World) (hk : k ≤ 8) : Calls Tryd.prog 127 #[U64 n, .int .i64 (k : Int)] w fun e w' => e = .returned (.string (bs (putB n k))) ∧ Cl w [] [] w' := by
  refine calls_of_CW (L := []) Tryd.func127 rfl (Nat.le_of_ble_eq_true rfl) (Cl.refl _) ?_
  refine CW.seq_k fun K1 hK1 => ?_
  refine CW.region ?_
  refine OW.q rfl rfl (yq_assign rfl (by (conv => lhs; whnf) <;> rfl)) ?_
  refine OW.nil ?_
  refine hK1 _ _ ?_
  refine CW.seq_k fun K2 hK2 => ?_
  refine CW.region ?_
  refine OW.q rfl rfl (yq_assign rfl (by (conv => lhs; whnf) <;> rfl)) ?_
  refine OW.nil ?_
  refine hK2 _ _ ?_
  refine CW.seq_k fun K3 hK3 => ?_
  refine CW.seq_k fun K4 hK4 => ?_
  refine CW.region ?_
  refine OW.q rfl rfl (yq_assign rfl (by (conv => lhs; whnf) <;> rfl)) ?_
  refine OW.nil ?_
  refine hK4 _ _ ?_
  refine CW.block ?_
  refine CW.loop (σ := Nat) (fun i ρ L => Has ρ [(0, U64 (shr8 n i)), (1, .int .i64 (k : Int)), (5, .string (bs (putT n i))), (6, .int .i64 (i : Int))] ∧ i ≤ k ∧ L = []) (fun i => k - i) (0) ?_ ?_
  · exact ⟨Has.mk ⟨(by (conv => lhs; whnf) <;> rfl), (by (conv => lhs; whnf) <;> rfl), (by (conv => lhs; whnf) <;> rfl), (by (conv => lhs; whnf) <;> rfl), trivial⟩, Nat.zero_le _, rfl⟩
  · rintro i _ _ ⟨⟨ρ', rfl⟩, hi, rfl⟩
    have hpt := putT_length n i
    refine CW.seq_k fun K5 hK5 => ?_
    refine CW.seq_k fun K6 hK6 => ?_
    refine CW.region ?_
    refine OW.q rfl rfl (yq_move rfl (by (conv => lhs; whnf) <;> rfl)) ?_
    refine OW.q rfl rfl (yq_move rfl (by (conv => lhs; whnf) <;> rfl)) ?_
    refine OW.qb rfl rfl (yq_lss rfl (by (conv => lhs; whnf) <;> rfl) (by (conv => lhs; whnf) <;> rfl)) (fun b9 hb9 => ?_)
    refine OW.q rfl rfl (yq_move rfl (by (conv => lhs; whnf) <;> rfl)) ?_
    apply OW.segAnd 3 [11, 12] 13 hb9
    · intro hb9e
      refine QW.q (by subst hb9e; rfl) rfl (yq_move rfl (by (conv => lhs; whnf) <;> rfl)) ?_
      refine QW.qb (by subst hb9e; rfl) rfl (yq_lss rfl (by (conv => lhs; whnf) <;> rfl) (by (conv => lhs; whnf) <;> rfl)) (fun b12 hb12 => ?_)
      refine QW.q rfl rfl (yq_pick rfl (by (conv => lhs; whnf) <;> rfl) (by subst hb9e; ((conv => lhs; whnf) <;> rfl))) ?_
      exact QW.nil (SegM.mk (any_c (any_c any_n)) (and_run hb9 hb9e hb12))
    · intro hb9e
      refine QW.skip (by subst hb9e; rfl) rfl ?_
      refine QW.skip (by subst hb9e; rfl) rfl ?_
      refine QW.q rfl rfl (yq_pick rfl (by (conv => lhs; whnf) <;> rfl) (by subst hb9e; ((conv => lhs; whnf) <;> rfl))) ?_
      exact QW.nil (SegM.mk (any_c (any_c any_n)) (and_skip hb9 hb9e))
    · intro ρ13 b13 hA hb13
      obtain ⟨x11, x12, rfl⟩ := hA
      refine OW.nil ?_
      refine hK6 _ _ ?_
      refine CW.condq (by (conv => lhs; whnf) <;> rfl) hb13 (fun hc1 => ?_) (fun hc1 => ?_)
      · refine CW.skip ?_
        refine hK5 _ _ ?_
        refine CW.seq_k fun K7 hK7 => ?_
        refine CW.block ?_
        refine CW.seq_k fun K8 hK8 => ?_
        refine CW.region ?_
        refine OW.q rfl rfl (yq_move rfl (by (conv => lhs; whnf) <;> rfl)) ?_
        refine OW.q rfl rfl (yq_rem_u64 (b := 256) rfl (by (conv => lhs; whnf) <;> rfl) (by (conv => lhs; whnf) <;> rfl) (by decide)) ?_
        refine OW.q rfl rfl ((yq_conv_u64_u8 rfl Tryd.underlying147 Tryd.underlying5 (by (conv => lhs; whnf) <;> rfl)).to (v' := U8 (shr8 n i).toUInt8) (by rw [mod256])) ?_
        refine OW.slicelit (vs := [U8 (shr8 n i).toUInt8]) rfl rfl rfl rfl ts92 ti5 tz5 (by decide) rfl (by decide) (by simp [Value.cells]) (by decide) (cs := [U8 (shr8 n i).toUInt8]) rfl (fun bl => ?_)
        refine OW.q rfl rfl (yq_conv_bytes (l := [(shr8 n i).toUInt8]) rfl ts92 Tryd.underlying5 tt9 (by (conv => lhs; whnf) <;> rfl) rfl (blk_cells (cs := bc ([(shr8 n i).toUInt8])) (by repeat' first | exact List.mem_cons_self .. | apply List.mem_cons_of_mem))) ?_
        refine OW.q rfl rfl (yq_move rfl (by (conv => lhs; whnf) <;> rfl)) ?_
        refine OW.q rfl rfl (yq_add_bs rfl (by (conv => lhs; whnf) <;> rfl) (by (conv => lhs; whnf) <;> rfl) (by simp only [List.length_singleton]; omega)) ?_
        refine OW.drop (List.nil_sublist _) ?_
        refine OW.q rfl rfl (yq_assign rfl (by (conv => lhs; whnf) <;> rfl)) ?_
        refine OW.nil ?_
        refine hK8 _ _ ?_
        refine CW.region ?_
        refine OW.q rfl rfl (yq_move rfl (by (conv => lhs; whnf) <;> rfl)) ?_
        refine OW.q rfl rfl (yq_quo_u64 (b := 256) rfl (by (conv => lhs; whnf) <;> rfl) (by (conv => lhs; whnf) <;> rfl) (by decide)) ?_
        refine OW.q rfl rfl (yq_assign rfl (by (conv => lhs; whnf) <;> rfl)) ?_
        refine OW.nil ?_
        refine hK7 _ _ ?_
        refine CW.region ?_
        refine OW.q rfl rfl (yq_move rfl (by (conv => lhs; whnf) <;> rfl)) ?_
        refine OW.q rfl rfl (yq_add rfl (by (conv => lhs; whnf) <;> rfl) (by (conv => lhs; whnf) <;> rfl) (by omega)) ?_
        refine OW.q rfl rfl (yq_assign rfl (by (conv => lhs; whnf) <;> rfl)) ?_
        refine OW.nil ?_
        exact ⟨i + 1, ⟨Has.mk ⟨by rw [← shr8_eq]; exact (by (conv => lhs; whnf) <;> rfl), (by (conv => lhs; whnf) <;> rfl), (by (conv => lhs; whnf) <;> rfl), (by (conv => lhs; whnf) <;> rfl), trivial⟩, by omega, rfl⟩, by omega⟩
      · have hik : i = k := by omega
        subst hik
        refine CW.exit ?_
        refine then_exit ?_
        refine then_exit ?_
        refine blockQ_hit ?_
        refine hK3 _ _ ?_
        refine CW.seq_k fun K9 hK9 => ?_
        refine CW.region ?_
        refine OW.q rfl rfl (yq_move rfl (by (conv => lhs; whnf) <;> rfl)) ?_
        refine OW.q rfl rfl (yq_assign rfl (by (conv => lhs; whnf) <;> rfl)) ?_
        refine OW.nil ?_
        refine hK9 _ _ ?_
        refine CW.ret ?_
        -- ret (ret)
        rw [← putT_eq]
        exact fin1 (Or.inr rfl) rfl ⟨by decide, (by (conv => lhs; whnf) <;> rfl)⟩ (fun w hw => ⟨rfl, hw⟩)

theorem bitB_eq (s : Bytes) (i : Nat) : bitB s i = (s.getD (i / 8) 0).toNat / 2 ^ (7 - i % 8) % 2 := by unfold bitB; rfl
theorem shr_and1 (c : UInt8) (k : Nat) (hk : k < 8) : ((c >>> UInt8.ofNat k &&& 1).toNat : Int) = ((c.toNat / 2 ^ k % 2 : Nat) : Int) := by
  rw [UInt8.toNat_and, UInt8.toNat_shiftRight, u8_nat (by omega)]
  have : c.toNat >>> (k % 8) &&& 1 = c.toNat / 2 ^ k % 2 := by
    rw [Nat.mod_eq_of_lt hk, Nat.shiftRight_eq_div_pow]
    exact Nat.and_one_is_mod _
  exact congrArg _ this

set_option maxRecDepth 100000 in
set_option maxHeartbeats 1000000 in
theorem bit_calls (s : Bytes) (i : Nat) (w : World) (hi : i / 8 < s.length) (hil : i ≤ 4294967296) : Calls Tryd.prog 121 #[.string (bs s), .int .i64 (i : Int)] w fun e w' => e = .returned (.int .i64 (bitB s i : Int)) ∧ Cl w [] [] w' := by
  refine calls_of_CW (L := []) Tryd.func121 rfl (Nat.le_of_ble_eq_true rfl) (Cl.refl _) ?_
  refine CW.seq_k fun K1 hK1 => ?_
  refine CW.region ?_
  refine OW.q rfl rfl (yq_assign rfl (by (conv => lhs; whnf) <;> rfl)) ?_
  refine OW.nil ?_
  refine hK1 _ _ ?_
  refine CW.seq_k fun K2 hK2 => ?_
  refine CW.seq_k fun K3 hK3 => ?_
  refine CW.region ?_
  refine OW.q rfl rfl (yq_move rfl (by (conv => lhs; whnf) <;> rfl)) ?_
  refine OW.qb rfl rfl (yq_lss rfl (by (conv => lhs; whnf) <;> rfl) (by (conv => lhs; whnf) <;> rfl)) (fun b6 hb6 => ?_)
  refine OW.q rfl rfl (yq_move rfl (by (conv => lhs; whnf) <;> rfl)) ?_
  apply OW.segOr 6 [8, 9, 10, 11, 12] 13 hb6
  · intro hb6e
    refine QW.q (by subst hb6e; rfl) rfl (yq_move rfl (by (conv => lhs; whnf) <;> rfl)) ?_
    refine QW.q (by subst hb6e; rfl) rfl (yq_quo rfl (by (conv => lhs; whnf) <;> rfl) (by (conv => lhs; whnf) <;> rfl) (by omega)) ?_
    refine QW.q (by subst hb6e; rfl) rfl (yq_move rfl (by (conv => lhs; whnf) <;> rfl)) ?_
    refine QW.q (by subst hb6e; rfl) rfl (yq_len_bs rfl tt9 (by (conv => lhs; whnf) <;> rfl)) ?_
    refine QW.qb (by subst hb6e; rfl) rfl (yq_geq rfl (by (conv => lhs; whnf) <;> rfl) (by (conv => lhs; whnf) <;> rfl)) (fun b12 hb12 => ?_)
    refine QW.q rfl rfl (yq_pick rfl (by (conv => lhs; whnf) <;> rfl) (by subst hb6e; ((conv => lhs; whnf) <;> rfl))) ?_
    exact QW.nil (SegM.mk (any_c (any_c (any_c (any_c (any_c any_n))))) (or_run hb6 hb6e hb12))
  · intro hb6e
    refine QW.skip (by subst hb6e; rfl) rfl ?_
    refine QW.skip (by subst hb6e; rfl) rfl ?_
    refine QW.skip (by subst hb6e; rfl) rfl ?_
    refine QW.skip (by subst hb6e; rfl) rfl ?_
    refine QW.skip (by subst hb6e; rfl) rfl ?_
    refine QW.q rfl rfl (yq_pick rfl (by (conv => lhs; whnf) <;> rfl) (by subst hb6e; ((conv => lhs; whnf) <;> rfl))) ?_
    exact QW.nil (SegM.mk (any_c (any_c (any_c (any_c (any_c any_n))))) (or_skip hb6 hb6e))
  · intro ρ13 b13 hA hb13
    obtain ⟨x8, x9, x10, x11, x12, rfl⟩ := hA
    refine OW.nil ?_
    refine hK3 _ _ ?_
    refine CW.condq (by (conv => lhs; whnf) <;> rfl) hb13 (fun hc0 => ?_) (fun hc0 => ?_)
    · exfalso; omega
    · refine CW.skip ?_
      refine hK2 _ _ ?_
      refine CW.seq_k fun K4 hK4 => ?_
      refine CW.region ?_
      refine OW.q rfl rfl (yq_move rfl (by (conv => lhs; whnf) <;> rfl)) ?_
      refine OW.q rfl rfl (yq_move rfl (by (conv => lhs; whnf) <;> rfl)) ?_
      refine OW.q rfl rfl (yq_quo rfl (by (conv => lhs; whnf) <;> rfl) (by (conv => lhs; whnf) <;> rfl) (by omega)) ?_
      refine OW.q rfl rfl (yq_index_bs (c := s.getD (i / 8) 0) rfl (by (conv => lhs; whnf) <;> rfl) (by (conv => lhs; whnf) <;> rfl) tt9 (by omega) (by rw [show ((i : Int) / 8).toNat = i / 8 by omega, List.getD_eq_getElem?_getD, List.getElem?_eq_getElem hi]; rfl)) ?_
      refine OW.q rfl rfl (yq_move rfl (by (conv => lhs; whnf) <;> rfl)) ?_
      refine OW.q rfl rfl (yq_rem rfl (by (conv => lhs; whnf) <;> rfl) (by (conv => lhs; whnf) <;> rfl) (by omega)) ?_
      refine OW.q rfl rfl (yq_sub_e (r := ((7 - i % 8 : Nat) : Int)) rfl (by (conv => lhs; whnf) <;> rfl) (by (conv => lhs; whnf) <;> rfl) (by rw [wrap64_in (by omega)]; omega)) ?_
      refine OW.q rfl rfl (yq_shr_u8 (s := 7 - i % 8) rfl (by (conv => lhs; whnf) <;> rfl) (by (conv => lhs; whnf) <;> rfl) (by omega)) ?_
      refine OW.q rfl rfl (yq_and_u8 (b := 1) rfl (by (conv => lhs; whnf) <;> rfl) (by (conv => lhs; whnf) <;> rfl)) ?_
      refine OW.q rfl rfl (yq_conv_u8_i64 rfl Tryd.underlying5 Tryd.underlying3 (by (conv => lhs; whnf) <;> rfl)) ?_
      refine OW.q rfl rfl (yq_assign rfl (by (conv => lhs; whnf) <;> rfl)) ?_
      refine OW.nil ?_
      refine hK4 _ _ ?_
      refine CW.ret ?_
      -- ret (ret)
      rw [bitB_eq, ← shr_and1 _ _ (show 7 - i % 8 < 8 by omega)]
      exact fin1 (Or.inr rfl) rfl ⟨by decide, (by (conv => lhs; whnf) <;> rfl)⟩ (fun w hw => ⟨rfl, hw⟩)

theorem u8_half (c j : Nat) (hc : c < 256) : UInt8.ofNat (c / 2 ^ j) / 2 = UInt8.ofNat (c / 2 ^ (j + 1)) := by
  apply UInt8.toNat_inj.1
  have h1 : c / 2 ^ j ≤ c := Nat.div_le_self _ _
  have h2 : c / 2 ^ (j + 1) ≤ c := Nat.div_le_self _ _
  rw [UInt8.toNat_div, u8_nat (by omega), u8_nat (by omega), Nat.pow_succ, ← Nat.div_div_eq_div_mul]
  rfl

set_option maxRecDepth 100000 in
set_option maxHeartbeats 1000000 in
theorem refbit_calls (s : Bytes) (i : Nat) (w : World) (hi : i / 8 < s.length) (hil : i ≤ 4294967296) : Calls Tryd.prog 124 #[.string (bs s), .int .i64 (i : Int)] w fun e w' => e = .returned (.int .i64 (bitB s i : Int)) ∧ Cl w [] [] w' := by
  obtain ⟨c, hc⟩ : ∃ c, c = s.getD (i / 8) 0 := ⟨_, rfl⟩
  have hcl := c.toNat_lt
  refine calls_of_CW (L := []) Tryd.func124 rfl (Nat.le_of_ble_eq_true rfl) (Cl.refl _) ?_
  refine CW.seq_k fun K1 hK1 => ?_
  refine CW.region ?_
  refine OW.q rfl rfl (yq_assign rfl (by (conv => lhs; whnf) <;> rfl)) ?_
  refine OW.nil ?_
  refine hK1 _ _ ?_
  refine CW.seq_k fun K2 hK2 => ?_
  refine CW.seq_k fun K3 hK3 => ?_
  refine CW.region ?_
  refine OW.q rfl rfl (yq_move rfl (by (conv => lhs; whnf) <;> rfl)) ?_
  refine OW.qb rfl rfl (yq_lss rfl (by (conv => lhs; whnf) <;> rfl) (by (conv => lhs; whnf) <;> rfl)) (fun b8 hb8 => ?_)
  refine OW.q rfl rfl (yq_move rfl (by (conv => lhs; whnf) <;> rfl)) ?_
  apply OW.segOr 6 [10, 11, 12, 13, 14] 15 hb8
  · intro hb8e
    refine QW.q (by subst hb8e; rfl) rfl (yq_move rfl (by (conv => lhs; whnf) <;> rfl)) ?_
    refine QW.q (by subst hb8e; rfl) rfl (yq_quo rfl (by (conv => lhs; whnf) <;> rfl) (by (conv => lhs; whnf) <;> rfl) (by omega)) ?_
    refine QW.q (by subst hb8e; rfl) rfl (yq_move rfl (by (conv => lhs; whnf) <;> rfl)) ?_
    refine QW.q (by subst hb8e; rfl) rfl (yq_len_bs rfl tt9 (by (conv => lhs; whnf) <;> rfl)) ?_
    refine QW.qb (by subst hb8e; rfl) rfl (yq_geq rfl (by (conv => lhs; whnf) <;> rfl) (by (conv => lhs; whnf) <;> rfl)) (fun b14 hb14 => ?_)
    refine QW.q rfl rfl (yq_pick rfl (by (conv => lhs; whnf) <;> rfl) (by subst hb8e; ((conv => lhs; whnf) <;> rfl))) ?_
    exact QW.nil (SegM.mk (any_c (any_c (any_c (any_c (any_c any_n))))) (or_run hb8 hb8e hb14))
  · intro hb8e
    refine QW.skip (by subst hb8e; rfl) rfl ?_
    refine QW.skip (by subst hb8e; rfl) rfl ?_
    refine QW.skip (by subst hb8e; rfl) rfl ?_
    refine QW.skip (by subst hb8e; rfl) rfl ?_
    refine QW.skip (by subst hb8e; rfl) rfl ?_
    refine QW.q rfl rfl (yq_pick rfl (by (conv => lhs; whnf) <;> rfl) (by subst hb8e; ((conv => lhs; whnf) <;> rfl))) ?_
    exact QW.nil (SegM.mk (any_c (any_c (any_c (any_c (any_c any_n))))) (or_skip hb8 hb8e))
  · intro ρ15 b15 hA hb15
    obtain ⟨x10, x11, x12, x13, x14, rfl⟩ := hA
    refine OW.nil ?_
    refine hK3 _ _ ?_
    refine CW.condq (by (conv => lhs; whnf) <;> rfl) hb15 (fun hc0 => ?_) (fun hc0 => ?_)
    · exfalso; omega
    · refine CW.skip ?_
      refine hK2 _ _ ?_
      refine CW.seq_k fun K4 hK4 => ?_
      refine CW.region ?_
      refine OW.q rfl rfl (yq_move rfl (by (conv => lhs; whnf) <;> rfl)) ?_
      refine OW.q rfl rfl (yq_move rfl (by (conv => lhs; whnf) <;> rfl)) ?_
      refine OW.q rfl rfl (yq_quo rfl (by (conv => lhs; whnf) <;> rfl) (by (conv => lhs; whnf) <;> rfl) (by omega)) ?_
      refine OW.q rfl rfl (yq_index_bs (c := c) rfl (by (conv => lhs; whnf) <;> rfl) (by (conv => lhs; whnf) <;> rfl) tt9 (by omega) (by rw [show ((i : Int) / 8).toNat = i / 8 by omega, hc, List.getD_eq_getElem?_getD, List.getElem?_eq_getElem hi]; rfl)) ?_
      refine OW.q rfl rfl (yq_assign rfl (by (conv => lhs; whnf) <;> rfl)) ?_
      refine OW.nil ?_
      refine hK4 _ _ ?_
      refine CW.seq_k fun K5 hK5 => ?_
      refine CW.seq_k fun K6 hK6 => ?_
      refine CW.region ?_
      refine OW.q rfl rfl (yq_move rfl (by (conv => lhs; whnf) <;> rfl)) ?_
      refine OW.q rfl rfl (yq_rem rfl (by (conv => lhs; whnf) <;> rfl) (by (conv => lhs; whnf) <;> rfl) (by omega)) ?_
      refine OW.q rfl rfl (yq_assign rfl (by (conv => lhs; whnf) <;> rfl)) ?_
      refine OW.nil ?_
      refine hK6 _ _ ?_
      refine CW.block ?_
      refine CW.loop (σ := Nat) (fun j ρ L => Has ρ [(5, U8 (UInt8.ofNat (c.toNat / 2 ^ j))), (6, .int .i64 ((i % 8 + j : Nat) : Int))] ∧ i % 8 + j ≤ 7 ∧ L = []) (fun j => 7 - j) (0) ?_ ?_
      · exact ⟨Has.mk ⟨by rw [Nat.pow_zero, Nat.div_one, u8_of_nat]; exact (by (conv => lhs; whnf) <;> rfl), (by (conv => lhs; whnf) <;> rfl), trivial⟩, by omega, rfl⟩
      · rintro j _ _ ⟨⟨ρ', rfl⟩, hj, rfl⟩
        refine CW.seq_k fun K7 hK7 => ?_
        refine CW.seq_k fun K8 hK8 => ?_
        refine CW.region ?_
        refine OW.q rfl rfl (yq_move rfl (by (conv => lhs; whnf) <;> rfl)) ?_
        refine OW.q rfl rfl (yq_lss rfl (by (conv => lhs; whnf) <;> rfl) (by (conv => lhs; whnf) <;> rfl)) ?_
        refine OW.nil ?_
        refine hK8 _ _ ?_
        refine CW.cond_dec (by (conv => lhs; whnf) <;> rfl) (fun hc2 => ?_) (fun hc2 => ?_)
        · refine CW.skip ?_
          refine hK7 _ _ ?_
          refine CW.seq_k fun K9 hK9 => ?_
          refine CW.block ?_
          refine CW.region ?_
          refine OW.q rfl rfl (yq_move rfl (by (conv => lhs; whnf) <;> rfl)) ?_
          refine OW.q rfl rfl (yq_quo_u8 (b := 2) rfl (by (conv => lhs; whnf) <;> rfl) (by (conv => lhs; whnf) <;> rfl) (by decide)) ?_
          refine OW.q rfl rfl (yq_assign rfl (by (conv => lhs; whnf) <;> rfl)) ?_
          refine OW.nil ?_
          refine hK9 _ _ ?_
          refine CW.region ?_
          refine OW.q rfl rfl (yq_move rfl (by (conv => lhs; whnf) <;> rfl)) ?_
          refine OW.q rfl rfl (yq_add rfl (by (conv => lhs; whnf) <;> rfl) (by (conv => lhs; whnf) <;> rfl) (by omega)) ?_
          refine OW.q rfl rfl (yq_assign rfl (by (conv => lhs; whnf) <;> rfl)) ?_
          refine OW.nil ?_
          exact ⟨j + 1, ⟨Has.mk ⟨by rw [← u8_half _ _ hcl]; exact (by (conv => lhs; whnf) <;> rfl), (by (conv => lhs; whnf) <;> rfl), trivial⟩, by omega, rfl⟩, by omega⟩
        · have hj7 : j = 7 - i % 8 := by omega
          subst hj7
          refine CW.exit ?_
          refine then_exit ?_
          refine then_exit ?_
          refine blockQ_hit ?_
          refine hK5 _ _ ?_
          refine CW.seq_k fun K10 hK10 => ?_
          refine CW.region ?_
          refine OW.q rfl rfl (yq_move rfl (by (conv => lhs; whnf) <;> rfl)) ?_
          refine OW.q rfl rfl (yq_rem_u8 (b := 2) rfl (by (conv => lhs; whnf) <;> rfl) (by (conv => lhs; whnf) <;> rfl) (by decide)) ?_
          refine OW.q rfl rfl (yq_conv_u8_i64 rfl Tryd.underlying5 Tryd.underlying3 (by (conv => lhs; whnf) <;> rfl)) ?_
          refine OW.q rfl rfl (yq_assign rfl (by (conv => lhs; whnf) <;> rfl)) ?_
          refine OW.nil ?_
          refine hK10 _ _ ?_
          refine CW.ret ?_
          -- ret (ret)
          have hb : (UInt8.ofNat (c.toNat / 2 ^ (7 - i % 8)) % 2).toNat = bitB s i := by
            have h1 : c.toNat / 2 ^ (7 - i % 8) ≤ c.toNat := Nat.div_le_self _ _
            rw [bitB_eq, ← hc, UInt8.toNat_mod, u8_nat (by omega)]; rfl
          rw [← hb]
          exact fin1 (Or.inr rfl) rfl ⟨by decide, (by (conv => lhs; whnf) <;> rfl)⟩ (fun w hw => ⟨rfl, hw⟩)

end Go.Proofs.YtahdekllphehkaaDoor
