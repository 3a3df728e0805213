/- Numbers, texts, hashes, lists read: walks; no statement of the seat is proved here. -/
import Derived.Test.YtahdekllphehkaaDoorH0h
set_option linter.unusedVariables false
set_option linter.unusedSimpArgs false
namespace Go.Proofs.YtahdekllphehkaaDoor
open Go.WL Go.Spec
theorem hd33 : HeadTy Tryd.prog 33 3 25 5 := ⟨by kernel_rfl, by kernel_rfl, by kernel_rfl, by kernel_rfl, Tryd.underlying3, ⟨_, _, ti3⟩, Tryd.underlying25, ⟨_, ti25⟩, Tryd.underlying5, ⟨_, ti5⟩⟩
set_option maxRecDepth 100000 in
set_option maxHeartbeats 1000000 in
theorem read_calls (s : Bytes) (w : World) (hs : s.length ≤ 9223372036854775807) :
    Calls Tryd.prog 109 #[.string (bs s)] w fun e w' => e = .returned (readV s) ∧ Cl w [] [] w' := by
  refine calls_of_CW (L := []) Tryd.func109 rfl (Nat.le_of_ble_eq_true rfl) (Cl.refl _) ?_
  refine CW.seq_k fun K1 hK1 => ?_
  refine CW.region ?_
  refine OW.q rfl rfl (yq_assign rfl (by (conv => lhs; whnf) <;> rfl)) ?_
  refine OW.q rfl rfl (yq_assign rfl (by (conv => lhs; whnf) <;> rfl)) ?_
  refine OW.q rfl rfl (yq_assign rfl (by (conv => lhs; whnf) <;> rfl)) ?_
  refine OW.nil ?_
  refine hK1 _ _ ?_
  refine CW.seq_k fun K2 hK2 => ?_
  refine CW.seq_k fun K3 hK3 => ?_
  refine CW.region ?_
  refine OW.q rfl rfl (yq_move rfl (by (conv => lhs; whnf) <;> rfl)) ?_
  refine OW.q rfl rfl (yq_len_bs rfl tt9 (by (conv => lhs; whnf) <;> rfl)) ?_
  refine OW.q rfl rfl (yq_move rfl (by (conv => lhs; whnf) <;> rfl)) ?_
  refine OW.nil ?_
  refine hK3 _ _ ?_
  refine CW.block ?_
  refine CW.loop (σ := Nat × Nat) (fun q ρ L => match q with | (i, m) => Has ρ [(0, .string (bs s)), (2, U64 (UInt64.ofNat m)), (8, .int .i64 (s.length : Int)), (9, .int .i64 (i : Int))] ∧ i ≤ s.length ∧ m < 18446744073709551616 ∧ readP m (s.drop i) = readB s ∧ L = []) (fun q => s.length - q.1) ((0, 0)) ?_ ?_
  · exact ⟨Has.mk ⟨(by (conv => lhs; whnf) <;> rfl), (by (conv => lhs; whnf) <;> rfl), (by (conv => lhs; whnf) <;> rfl), (by (conv => lhs; whnf) <;> rfl), trivial⟩, Nat.zero_le _, by decide, by unfold readB; rfl, rfl⟩
  · rintro ⟨i, m⟩ _ _ ⟨⟨ρ', rfl⟩, hi, hm, hR, rfl⟩
    have hmu := u64_nat hm
    refine CW.seq_k fun K4 hK4 => ?_
    refine CW.region ?_
    refine OW.q rfl rfl (yq_lss rfl (by (conv => lhs; whnf) <;> rfl) (by (conv => lhs; whnf) <;> rfl)) ?_
    refine OW.nil ?_
    refine hK4 _ _ ?_
    refine CW.seq_k fun K5 hK5 => ?_
    refine CW.cond_dec (by (conv => lhs; whnf) <;> rfl) (fun hc1 => ?_) (fun hc1 => ?_)
    · have hlt : i < s.length := by omega
      obtain ⟨c, hc⟩ : ∃ c, s[i]? = some c := ⟨_, List.getElem?_eq_getElem hlt⟩
      have hcl := c.toNat_lt
      have hdr : s.drop i = c :: s.drop (i + 1) := by
        rw [List.drop_eq_getElem_cons hlt]
        rw [List.getElem?_eq_getElem hlt, Option.some.injEq] at hc
        rw [hc]
      refine CW.skip ?_
      refine hK5 _ _ ?_
      refine CW.seq_k fun K6 hK6 => ?_
      refine CW.block ?_
      refine CW.seq_k fun K7 hK7 => ?_
      refine CW.region ?_
      refine OW.q rfl rfl (yq_move rfl (by (conv => lhs; whnf) <;> rfl)) ?_
      refine OW.q rfl rfl (yq_assign rfl (by (conv => lhs; whnf) <;> rfl)) ?_
      refine OW.nil ?_
      refine hK7 _ _ ?_
      refine CW.seq_k fun K8 hK8 => ?_
      refine CW.region ?_
      refine OW.q rfl rfl (yq_move rfl (by (conv => lhs; whnf) <;> rfl)) ?_
      refine OW.q rfl rfl (yq_move rfl (by (conv => lhs; whnf) <;> rfl)) ?_
      refine OW.q rfl rfl (yq_index_bs (c := c) rfl (by (conv => lhs; whnf) <;> rfl) (by (conv => lhs; whnf) <;> rfl) tt9 (by omega) (by rw [Int.toNat_natCast]; exact hc)) ?_
      refine OW.q rfl rfl (yq_assign rfl (by (conv => lhs; whnf) <;> rfl)) ?_
      refine OW.nil ?_
      refine hK8 _ _ ?_
      refine CW.seq_k fun K9 hK9 => ?_
      refine CW.seq_k fun K10 hK10 => ?_
      refine CW.region ?_
      refine OW.q rfl rfl (yq_move rfl (by (conv => lhs; whnf) <;> rfl)) ?_
      refine OW.qb rfl rfl (yq_eql rfl (by (conv => lhs; whnf) <;> rfl) (by (conv => lhs; whnf) <;> rfl)) (fun b16 hb16 => ?_)
      refine OW.q rfl rfl (yq_move rfl (by (conv => lhs; whnf) <;> rfl)) ?_
      apply OW.segAnd 3 [18, 19] 20 hb16
      · intro hb16e
        refine QW.q (by subst hb16e; rfl) rfl (yq_move rfl (by (conv => lhs; whnf) <;> rfl)) ?_
        refine QW.qb (by subst hb16e; rfl) rfl (yq_eql rfl (by (conv => lhs; whnf) <;> rfl) (by (conv => lhs; whnf) <;> rfl)) (fun b19 hb19 => ?_)
        refine QW.q rfl rfl (yq_pick rfl (by (conv => lhs; whnf) <;> rfl) (by subst hb16e; ((conv => lhs; whnf) <;> rfl))) ?_
        exact QW.nil (SegM.mk (any_c (any_c any_n)) (and_run hb16 hb16e hb19))
      · intro hb16e
        refine QW.skip (by subst hb16e; rfl) rfl ?_
        refine QW.skip (by subst hb16e; rfl) rfl ?_
        refine QW.q rfl rfl (yq_pick rfl (by (conv => lhs; whnf) <;> rfl) (by subst hb16e; ((conv => lhs; whnf) <;> rfl))) ?_
        exact QW.nil (SegM.mk (any_c (any_c any_n)) (and_skip hb16 hb16e))
      · intro ρ20 b20 hA hb20
        obtain ⟨x18, x19, rfl⟩ := hA
        refine OW.q rfl rfl (yq_move rfl (by (conv => lhs; whnf) <;> rfl)) ?_
        apply OW.segOr 3 [22, 23] 24 hb20
        · intro hb20e
          refine QW.q (by subst hb20e; rfl) rfl (yq_move rfl (by (conv => lhs; whnf) <;> rfl)) ?_
          refine QW.qb (by subst hb20e; rfl) rfl (yq_geq rfl (by (conv => lhs; whnf) <;> rfl) (by (conv => lhs; whnf) <;> rfl)) (fun b23 hb23 => ?_)
          refine QW.q rfl rfl (yq_pick rfl (by (conv => lhs; whnf) <;> rfl) (by subst hb20e; ((conv => lhs; whnf) <;> rfl))) ?_
          exact QW.nil (SegM.mk (any_c (any_c any_n)) (or_run hb20 hb20e hb23))
        · intro hb20e
          refine QW.skip (by subst hb20e; rfl) rfl ?_
          refine QW.skip (by subst hb20e; rfl) rfl ?_
          refine QW.q rfl rfl (yq_pick rfl (by (conv => lhs; whnf) <;> rfl) (by subst hb20e; ((conv => lhs; whnf) <;> rfl))) ?_
          exact QW.nil (SegM.mk (any_c (any_c any_n)) (or_skip hb20 hb20e))
        · intro ρ24 b24 hA hb24
          obtain ⟨x22, x23, rfl⟩ := hA
          refine OW.nil ?_
          refine hK10 _ _ ?_
          refine CW.condq (by (conv => lhs; whnf) <;> rfl) hb24 (fun hc3 => ?_) (fun hc3 => ?_)
          · have hnone : readB s = none := by rw [← hR, hdr, readP_none (by omega)]
            refine CW.exit ?_
            refine then_exit ?_
            refine blockQ_miss rfl ?_
            refine then_exit ?_
            refine then_exit ?_
            refine blockQ_hit ?_
            refine hK2 _ _ ?_
            refine CW.seq_k fun K11 hK11 => ?_
            refine CW.region ?_
            refine OW.q rfl rfl (yq_assign rfl (by (conv => lhs; whnf) <;> rfl)) ?_
            refine OW.q rfl rfl (yq_assign rfl (by (conv => lhs; whnf) <;> rfl)) ?_
            refine OW.q rfl rfl (yq_assign rfl (by (conv => lhs; whnf) <;> rfl)) ?_
            refine OW.nil ?_
            refine hK11 _ _ ?_
            refine CW.ret ?_
            -- ret (ret)
            rw [readV_none hnone]
            exact fin3 (Or.inr rfl) rfl ⟨by decide, (by (conv => lhs; whnf) <;> rfl)⟩ ⟨by decide, (by (conv => lhs; whnf) <;> rfl)⟩ ⟨by decide, (by (conv => lhs; whnf) <;> rfl)⟩ (fun w hw => ⟨rfl, hw.sub (List.nil_sublist _)⟩)
          · have hbr : ¬ (m = 0 ∧ c.toNat = 128 ∨ 144115188075855872 ≤ m) := by omega
            refine CW.skip ?_
            refine hK9 _ _ ?_
            refine CW.seq_k fun K12 hK12 => ?_
            refine CW.region ?_
            refine OW.q rfl rfl (yq_move rfl (by (conv => lhs; whnf) <;> rfl)) ?_
            refine OW.q rfl rfl (yq_shl_u64 (s := 7) rfl (by (conv => lhs; whnf) <;> rfl) (by (conv => lhs; whnf) <;> rfl) (by decide)) ?_
            refine OW.q rfl rfl (yq_move rfl (by (conv => lhs; whnf) <;> rfl)) ?_
            refine OW.q rfl rfl (yq_and_u8 (b := 127) rfl (by (conv => lhs; whnf) <;> rfl) (by (conv => lhs; whnf) <;> rfl)) ?_
            refine OW.q rfl rfl (yq_conv_u8_u64 rfl Tryd.underlying5 Tryd.underlying147 (by (conv => lhs; whnf) <;> rfl)) ?_
            refine OW.q rfl rfl (yq_or_u64 rfl (by (conv => lhs; whnf) <;> rfl) (by (conv => lhs; whnf) <;> rfl)) ?_
            refine OW.q rfl rfl (yq_assign rfl (by (conv => lhs; whnf) <;> rfl)) ?_
            refine OW.nil ?_
            refine hK12 _ _ ?_
            refine CW.seq_k fun K13 hK13 => ?_
            refine CW.region ?_
            refine OW.q rfl rfl (yq_move rfl (by (conv => lhs; whnf) <;> rfl)) ?_
            refine OW.q rfl rfl (yq_lss rfl (by (conv => lhs; whnf) <;> rfl) (by (conv => lhs; whnf) <;> rfl)) ?_
            refine OW.nil ?_
            refine hK13 _ _ ?_
            refine CW.cond_dec (by (conv => lhs; whnf) <;> rfl) (fun hc4 => ?_) (fun hc4 => ?_)
            · have hsh := shl7 (UInt64.ofNat m) c (by omega)
              rw [hmu] at hsh
              have hsome : readB s = some (m * 128 + c.toNat % 128, s.drop (i + 1)) := by rw [← hR, hdr, readP_last hbr (by omega)]
              refine CW.seq_k fun K14 hK14 => ?_
              refine CW.draw mixed (by kernel_rfl) ?_
              refine QW.q rfl rfl (yq_move rfl (by (conv => lhs; whnf) <;> rfl)) ?_
              refine QW.q rfl rfl (yq_move rfl (by (conv => lhs; whnf) <;> rfl)) ?_
              refine QW.q rfl rfl (yq_move rfl (by (conv => lhs; whnf) <;> rfl)) ?_
              refine QW.q rfl rfl (yq_add rfl (by (conv => lhs; whnf) <;> rfl) (by (conv => lhs; whnf) <;> rfl) (by omega)) ?_
              refine QW.q rfl rfl (yq_slice_bs_from (l := i + 1) rfl (by (conv => lhs; whnf) <;> rfl) tt9 ⟨_, _, (by (conv => lhs; whnf) <;> rfl), by omega, by omega⟩ (by omega)) ?_
              refine QW.q rfl rfl (yq_assign rfl (by (conv => lhs; whnf) <;> rfl)) ?_
              refine QW.q rfl rfl (yq_assign rfl (by (conv => lhs; whnf) <;> rfl)) ?_
              refine QW.q rfl rfl (yq_assign rfl (by (conv => lhs; whnf) <;> rfl)) ?_
              refine QW.nil ?_
              refine hK14 _ _ ?_
              refine CW.ret ?_
              refine blockQ_ret ?_
              refine then_ret ?_
              refine then_ret ?_
              refine blockQ_ret ?_
              refine then_ret ?_
              -- ret (ret)
              rw [readV_some hsome, ← hsh]
              exact fin3 (Or.inr rfl) rfl ⟨by decide, (by (conv => lhs; whnf) <;> rfl)⟩ ⟨by decide, (by (conv => lhs; whnf) <;> rfl)⟩ ⟨by decide, (by (conv => lhs; whnf) <;> rfl)⟩ (fun w hw => ⟨rfl, hw.sub (List.nil_sublist _)⟩)
            · refine CW.skip ?_
              refine hK6 _ _ ?_
              refine CW.region ?_
              refine OW.q rfl rfl (yq_add rfl (by (conv => lhs; whnf) <;> rfl) (by (conv => lhs; whnf) <;> rfl) (by omega)) ?_
              refine OW.q rfl rfl (yq_move rfl (by (conv => lhs; whnf) <;> rfl)) ?_
              refine OW.nil ?_
              refine ⟨(i + 1, m * 128 + c.toNat % 128), ⟨Has.mk ⟨(by (conv => lhs; whnf) <;> rfl), by rw [← hmu, ← shl7 _ _ (by omega), hmu]; exact (by (conv => lhs; whnf) <;> rfl), (by (conv => lhs; whnf) <;> rfl), (by (conv => lhs; whnf) <;> rfl), trivial⟩, by omega, by omega, ?_, rfl⟩, by show s.length - (i + 1) < s.length - i; omega⟩
              rw [← hR, hdr, readP_more hbr (by omega)]
    · have hil : i = s.length := by omega
      have hnone : readB s = none := by rw [← hR, hil, List.drop_length, readP_nil]
      refine CW.exit ?_
      refine then_exit ?_
      refine then_exit ?_
      refine blockQ_hit ?_
      refine hK2 _ _ ?_
      refine CW.seq_k fun K15 hK15 => ?_
      refine CW.region ?_
      refine OW.q rfl rfl (yq_assign rfl (by (conv => lhs; whnf) <;> rfl)) ?_
      refine OW.q rfl rfl (yq_assign rfl (by (conv => lhs; whnf) <;> rfl)) ?_
      refine OW.q rfl rfl (yq_assign rfl (by (conv => lhs; whnf) <;> rfl)) ?_
      refine OW.nil ?_
      refine hK15 _ _ ?_
      refine CW.ret ?_
      -- ret (ret)
      rw [readV_none hnone]
      exact fin3 (Or.inr rfl) rfl ⟨by decide, (by (conv => lhs; whnf) <;> rfl)⟩ ⟨by decide, (by (conv => lhs; whnf) <;> rfl)⟩ ⟨by decide, (by (conv => lhs; whnf) <;> rfl)⟩ (fun w hw => ⟨rfl, hw.sub (List.nil_sublist _)⟩)
set_option maxRecDepth 100000 in
set_option maxHeartbeats 1000000 in
theorem cut_calls (s : Bytes) (w : World) (hs : s.length ≤ 9223372036854775807) :
    Calls Tryd.prog 133 #[.string (bs s)] w fun e w' => e = .returned (cutV s) ∧ Cl w [] [] w' := by
  have hrl := readF_len s
  have hrn := readF_lt s
  have hcr := cutF_read s
  have hun := u64_nat hrn
  have hR : ∀ w, Calls Tryd.prog 109 #[.string (bs s)] w fun e w' => e = .returned (.tuple #[U64 (UInt64.ofNat (readF s).1), .string (bs (readF s).2.1), .bool (readF s).2.2]) ∧ Cl w [] [] w' := fun w => read_calls s w hs
  refine calls_of_CW (L := []) Tryd.func133 rfl (Nat.le_of_ble_eq_true rfl) (Cl.refl _) ?_
  refine CW.seq_k fun K1 hK1 => ?_
  refine CW.region ?_
  refine OW.q rfl rfl (yq_assign rfl (by (conv => lhs; whnf) <;> rfl)) ?_
  refine OW.q rfl rfl (yq_assign rfl (by (conv => lhs; whnf) <;> rfl)) ?_
  refine OW.q rfl rfl (yq_assign rfl (by (conv => lhs; whnf) <;> rfl)) ?_
  refine OW.nil ?_
  refine hK1 _ _ ?_
  refine CW.seq_k fun K2 hK2 => ?_
  refine CW.region ?_
  refine OW.q rfl rfl (yq_move rfl (by (conv => lhs; whnf) <;> rfl)) ?_
  refine OW.q rfl rfl (yq_call rfl rfl (.cons (by (conv => lhs; whnf) <;> rfl) .nil) en109 (fun w hw => hR w)) ?_
  refine OW.q rfl rfl (yq_move rfl (by (conv => lhs; whnf) <;> rfl)) ?_
  refine OW.q rfl rfl (yq_extract rfl (by (conv => lhs; whnf) <;> rfl) rfl) ?_
  refine OW.q rfl rfl (yq_extract rfl (by (conv => lhs; whnf) <;> rfl) rfl) ?_
  refine OW.q rfl rfl (yq_extract rfl (by (conv => lhs; whnf) <;> rfl) rfl) ?_
  refine OW.q rfl rfl (yq_assign rfl (by (conv => lhs; whnf) <;> rfl)) ?_
  refine OW.q rfl rfl (yq_assign rfl (by (conv => lhs; whnf) <;> rfl)) ?_
  refine OW.q rfl rfl (yq_assign rfl (by (conv => lhs; whnf) <;> rfl)) ?_
  refine OW.nil ?_
  refine hK2 _ _ ?_
  refine CW.seq_k fun K3 hK3 => ?_
  refine CW.seq_k fun K4 hK4 => ?_
  refine CW.region ?_
  refine OW.q rfl rfl (yq_move rfl (by (conv => lhs; whnf) <;> rfl)) ?_
  refine OW.q rfl rfl (yq_not rfl (by (conv => lhs; whnf) <;> rfl)) ?_
  refine OW.nil ?_
  refine hK4 _ _ ?_
  refine CW.cond (by (conv => lhs; whnf) <;> rfl) (fun hc0 => ?_) (fun hc0 => ?_)
  · have hno : ¬ ((readF s).2.2 = true ∧ (readF s).1 ≤ (readF s).2.1.length) := fun h => by simp [h.1] at hc0
    refine CW.seq_k fun K5 hK5 => ?_
    refine CW.region ?_
    refine OW.q rfl rfl (yq_assign rfl (by (conv => lhs; whnf) <;> rfl)) ?_
    refine OW.q rfl rfl (yq_assign rfl (by (conv => lhs; whnf) <;> rfl)) ?_
    refine OW.q rfl rfl (yq_assign rfl (by (conv => lhs; whnf) <;> rfl)) ?_
    refine OW.nil ?_
    refine hK5 _ _ ?_
    refine CW.ret ?_
    refine then_ret ?_
    -- ret (ret)
    rw [show cutV s = .tuple #[.string (bs []), .string (bs []), .bool false] by unfold cutV; rw [hcr, if_neg hno]]
    exact fin3 (Or.inr rfl) rfl ⟨by decide, (by (conv => lhs; whnf) <;> rfl)⟩ ⟨by decide, (by (conv => lhs; whnf) <;> rfl)⟩ ⟨by decide, (by (conv => lhs; whnf) <;> rfl)⟩ (fun w hw => ⟨rfl, hw.sub (List.nil_sublist _)⟩)
  · have hb : (readF s).2.2 = true := by simpa using hc0
    refine CW.skip ?_
    refine hK3 _ _ ?_
    refine CW.seq_k fun K6 hK6 => ?_
    refine CW.region ?_
    refine OW.q rfl rfl (yq_move rfl (by (conv => lhs; whnf) <;> rfl)) ?_
    refine OW.q rfl rfl (yq_move rfl (by (conv => lhs; whnf) <;> rfl)) ?_
    rcases Nat.lt_or_ge (readF s).2.1.length (readF s).1 with hlt | hge
    · refine OW.q rfl rfl (yq_call rfl rfl (.cons (by (conv => lhs; whnf) <;> rfl) ( .cons (by (conv => lhs; whnf) <;> rfl) .nil)) en151 (fun w hw => take_short (readF s).2.1 (UInt64.ofNat (readF s).1) w (by omega) (by omega))) ?_
      refine OW.q rfl rfl (yq_extract rfl (by (conv => lhs; whnf) <;> rfl) rfl) ?_
      refine OW.q rfl rfl (yq_extract rfl (by (conv => lhs; whnf) <;> rfl) rfl) ?_
      refine OW.q rfl rfl (yq_extract rfl (by (conv => lhs; whnf) <;> rfl) rfl) ?_
      refine OW.q rfl rfl (yq_assign rfl (by (conv => lhs; whnf) <;> rfl)) ?_
      refine OW.q rfl rfl (yq_assign rfl (by (conv => lhs; whnf) <;> rfl)) ?_
      refine OW.q rfl rfl (yq_assign rfl (by (conv => lhs; whnf) <;> rfl)) ?_
      refine OW.nil ?_
      refine hK6 _ _ ?_
      refine CW.ret ?_
      -- ret (ret)
      have hno : ¬ ((readF s).2.2 = true ∧ (readF s).1 ≤ (readF s).2.1.length) := fun h => by omega
      rw [show cutV s = .tuple #[.string (bs []), .string (bs []), .bool false] by unfold cutV; rw [hcr, if_neg hno]]
      exact fin3 (Or.inr rfl) rfl ⟨by decide, (by (conv => lhs; whnf) <;> rfl)⟩ ⟨by decide, (by (conv => lhs; whnf) <;> rfl)⟩ ⟨by decide, (by (conv => lhs; whnf) <;> rfl)⟩ (fun w hw => ⟨rfl, hw.sub (List.nil_sublist _)⟩)
    · refine OW.q rfl rfl (yq_call rfl rfl (.cons (by (conv => lhs; whnf) <;> rfl) ( .cons (by (conv => lhs; whnf) <;> rfl) .nil)) en151 (fun w hw => take_long (readF s).2.1 (UInt64.ofNat (readF s).1) w (by omega) (by omega))) ?_
      refine OW.q rfl rfl (yq_extract rfl (by (conv => lhs; whnf) <;> rfl) rfl) ?_
      refine OW.q rfl rfl (yq_extract rfl (by (conv => lhs; whnf) <;> rfl) rfl) ?_
      refine OW.q rfl rfl (yq_extract rfl (by (conv => lhs; whnf) <;> rfl) rfl) ?_
      refine OW.q rfl rfl (yq_assign rfl (by (conv => lhs; whnf) <;> rfl)) ?_
      refine OW.q rfl rfl (yq_assign rfl (by (conv => lhs; whnf) <;> rfl)) ?_
      refine OW.q rfl rfl (yq_assign rfl (by (conv => lhs; whnf) <;> rfl)) ?_
      refine OW.nil ?_
      refine hK6 _ _ ?_
      refine CW.ret ?_
      -- ret (ret)
      rw [hun, show cutV s = .tuple #[.string (bs ((readF s).2.1.take (readF s).1)), .string (bs ((readF s).2.1.drop (readF s).1)), .bool true] by unfold cutV; rw [hcr, if_pos ⟨hb, hge⟩]]
      exact fin3 (Or.inr rfl) rfl ⟨by decide, (by (conv => lhs; whnf) <;> rfl)⟩ ⟨by decide, (by (conv => lhs; whnf) <;> rfl)⟩ ⟨by decide, (by (conv => lhs; whnf) <;> rfl)⟩ (fun w hw => ⟨rfl, hw.sub (List.nil_sublist _)⟩)
theorem readB_F (s : Bytes) : readB s = if (readF s).2.2 = true then some ((readF s).1, (readF s).2.1) else none := by
  cases h : readB s with
  | none => rw [readF_none h]; simp
  | some p => obtain ⟨n, r⟩ := p; rw [readF_some h]; simp
theorem u64_pred {m : Nat} (h0 : 0 < m) (h : m < 18446744073709551616) : UInt64.ofNat m - 1 = UInt64.ofNat (m - 1) := by
  apply UInt64.toNat_inj.1
  rw [UInt64.toNat_sub, u64_nat h, u64_nat (show m - 1 < 18446744073709551616 by omega)]
  show (18446744073709551616 - 1 + m) % 18446744073709551616 = m - 1
  omega
theorem unhash_short (s : Bytes) (w : World) (hs : s.length ≤ 9223372036854775807) (h : s.length < 32) : Calls Tryd.prog 111 #[.string (bs s)] w fun e w' => e = .returned (.tuple #[HV zeroHash, .string (bs []), .bool false]) ∧ Cl w [] [] w' := by
  have := unhash_calls s w hs
  rwa [unhashV_short h] at this
theorem unhash_long (s : Bytes) (w : World) (hs : s.length ≤ 9223372036854775807) (h : 32 ≤ s.length) : Calls Tryd.prog 111 #[.string (bs s)] w fun e w' => e = .returned (.tuple #[HV (toH (s.take 32)), .string (bs (s.drop 32)), .bool true]) ∧ Cl w [] [] w' := by
  have := unhash_calls s w hs
  rwa [unhashV_long h] at this
theorem refunhash_long (s : Bytes) (w : World) (hs : s.length ≤ 9223372036854775807) (h : 32 ≤ s.length) : Calls Tryd.prog 129 #[.string (bs s)] w fun e w' => e = .returned (.tuple #[HV (toH (s.take 32)), .string (bs (s.drop 32)), .bool true]) ∧ Cl w [] [] w' := by
  have := refunhash_calls s w hs
  rwa [unhashV_long h] at this
set_option maxRecDepth 100000 in
set_option maxHeartbeats 1000000 in
theorem unhashes_calls (s : Bytes) (w : World) (hs : s.length ≤ 4294967296) :
    Calls Tryd.prog 112 #[.string (bs s)] w fun e w' => ∃ v L1, e = .returned v ∧ Cl w [] L1 w' ∧ ∃ u, v = .tuple #[u, .string (bs (unhashesF s).2.1), .bool (unhashesF s).2.2] ∧ OutHs u L1 (unhashesF s).1 := by
  have hrl := readF_len s
  have hrn := readF_lt s
  have hB := readB_F s
  have hU := unhashesB_eq s
  obtain ⟨⟨n, r0, ok⟩, hF⟩ : ∃ x, readF s = x := ⟨_, rfl⟩
  rw [hF] at hrl hrn hB
  rw [hB] at hU
  simp only at hrl hrn hU
  have hun := u64_nat hrn
  have hR : ∀ w, Calls Tryd.prog 109 #[.string (bs s)] w fun e w' => e = .returned (.tuple #[U64 (UInt64.ofNat n), .string (bs r0), .bool ok]) ∧ Cl w [] [] w' := fun w => by
    have := read_calls s w (by omega)
    unfold readV at this
    rwa [hF] at this
  refine calls_of_CW (L := []) Tryd.func112 rfl (Nat.le_of_ble_eq_true rfl) (Cl.refl _) ?_
  refine CW.seq_k fun K1 hK1 => ?_
  refine CW.nilrow 25 32 ?_
  refine CW.region ?_
  refine OW.q rfl rfl (yq_assign rfl (by (conv => lhs; whnf) <;> rfl)) ?_
  refine OW.q rfl rfl (yq_assign rfl (by (conv => lhs; whnf) <;> rfl)) ?_
  refine OW.q rfl rfl (yq_assign rfl (by (conv => lhs; whnf) <;> rfl)) ?_
  refine OW.nil ?_
  refine hK1 _ _ ?_
  refine CW.seq_k fun K2 hK2 => ?_
  refine CW.region ?_
  refine OW.q rfl rfl (yq_move rfl (by (conv => lhs; whnf) <;> rfl)) ?_
  refine OW.q rfl rfl (yq_call rfl rfl (.cons (by (conv => lhs; whnf) <;> rfl) .nil) en109 (fun w hw => hR w)) ?_
  refine OW.q rfl rfl (yq_move rfl (by (conv => lhs; whnf) <;> rfl)) ?_
  refine OW.q rfl rfl (yq_extract rfl (by (conv => lhs; whnf) <;> rfl) rfl) ?_
  refine OW.q rfl rfl (yq_extract rfl (by (conv => lhs; whnf) <;> rfl) rfl) ?_
  refine OW.q rfl rfl (yq_extract rfl (by (conv => lhs; whnf) <;> rfl) rfl) ?_
  refine OW.q rfl rfl (yq_assign rfl (by (conv => lhs; whnf) <;> rfl)) ?_
  refine OW.q rfl rfl (yq_assign rfl (by (conv => lhs; whnf) <;> rfl)) ?_
  refine OW.q rfl rfl (yq_assign rfl (by (conv => lhs; whnf) <;> rfl)) ?_
  refine OW.nil ?_
  refine hK2 _ _ ?_
  refine CW.seq_k fun K3 hK3 => ?_
  refine CW.seq_k fun K4 hK4 => ?_
  refine CW.region ?_
  refine OW.q rfl rfl (yq_move rfl (by (conv => lhs; whnf) <;> rfl)) ?_
  refine OW.qn rfl rfl (yq_not rfl (by (conv => lhs; whnf) <;> rfl)) (Iff.refl (ok = true)) (fun b16 hb16 => ?_)
  refine OW.q rfl rfl (yq_move rfl (by (conv => lhs; whnf) <;> rfl)) ?_
  apply OW.segOr 3 [18, 19] 20 hb16
  · intro hb16e
    refine QW.q (by subst hb16e; rfl) rfl (yq_move rfl (by (conv => lhs; whnf) <;> rfl)) ?_
    refine QW.qb (by subst hb16e; rfl) rfl (yq_gtr rfl (by (conv => lhs; whnf) <;> rfl) (by (conv => lhs; whnf) <;> rfl)) (fun b19 hb19 => ?_)
    refine QW.q rfl rfl (yq_pick rfl (by (conv => lhs; whnf) <;> rfl) (by subst hb16e; ((conv => lhs; whnf) <;> rfl))) ?_
    exact QW.nil (SegM.mk (any_c (any_c any_n)) (or_run hb16 hb16e hb19))
  · intro hb16e
    refine QW.skip (by subst hb16e; rfl) rfl ?_
    refine QW.skip (by subst hb16e; rfl) rfl ?_
    refine QW.q rfl rfl (yq_pick rfl (by (conv => lhs; whnf) <;> rfl) (by subst hb16e; ((conv => lhs; whnf) <;> rfl))) ?_
    exact QW.nil (SegM.mk (any_c (any_c any_n)) (or_skip hb16 hb16e))
  · intro ρ20 b20 hA hb20
    obtain ⟨x18, x19, rfl⟩ := hA
    refine OW.nil ?_
    refine hK4 _ _ ?_
    refine CW.condq (by (conv => lhs; whnf) <;> rfl) hb20 (fun hc0 => ?_) (fun hc0 => ?_)
    · have hno : unhashesB s = none := by
        rw [hU]
        by_cases hok : ok = true
        · have h64 := hc0.resolve_left (fun h => h hok)
          rw [if_pos hok]; simp only; rw [if_pos (by omega)]
        · rw [if_neg hok]
      refine CW.seq_k fun K5 hK5 => ?_
      refine CW.nilrow 25 32 ?_
      refine CW.region ?_
      refine OW.q rfl rfl (yq_assign rfl (by (conv => lhs; whnf) <;> rfl)) ?_
      refine OW.q rfl rfl (yq_assign rfl (by (conv => lhs; whnf) <;> rfl)) ?_
      refine OW.q rfl rfl (yq_assign rfl (by (conv => lhs; whnf) <;> rfl)) ?_
      refine OW.nil ?_
      refine hK5 _ _ ?_
      refine CW.ret ?_
      refine then_ret ?_
      -- ret (ret)
      rw [unhashesF_none hno]
      exact fin3 (Or.inr rfl) rfl ⟨by decide, (by (conv => lhs; whnf) <;> rfl)⟩ ⟨by decide, (by (conv => lhs; whnf) <;> rfl)⟩ ⟨by decide, (by (conv => lhs; whnf) <;> rfl)⟩ (fun w hw => ⟨_, [.row none 0 0 25 32 []], rfl, hw.sub (by repeat' first | exact List.Sublist.refl _ | exact List.nil_sublist _ | apply List.Sublist.cons_cons | apply List.Sublist.cons), .slice none 0 0, rfl, none, 0, rfl, rfl⟩)
    · have hok : ok = true := Decidable.byContradiction fun h => hc0 (.inl h)
      have hn64 : n ≤ 64 := by
        have h64 : ¬ _ := fun h => hc0 (.inr h)
        omega
      have hU2 : unhashesB s = takeH n r0 := by rw [hU, if_pos hok]; simp only; rw [if_neg (by omega)]
      clear hc0 hU
      refine CW.skip ?_
      refine hK3 _ _ ?_
      refine CW.seq_k fun K6 hK6 => ?_
      refine CW.block ?_
      refine CW.loop (σ := List Hash × Bytes) (fun q ρ L => match q with | (l, r) => ∃ a cap, Has ρ [(2, rowV a l.length cap), (3, .string (bs r)), (5, U64 (UInt64.ofNat (n - l.length)))] ∧ l.length ≤ n ∧ r.length ≤ s.length ∧ takeH n r0 = (takeH (n - l.length) r).map (fun p => (l ++ p.1, p.2)) ∧ L = [.row a cap l.length 25 32 (l.flatMap hc)]) (fun q => n - q.1.length) (([], r0)) ?_ ?_
      · refine ⟨none, 0, Has.mk ⟨(by (conv => lhs; whnf) <;> rfl), (by (conv => lhs; whnf) <;> rfl), (by (conv => lhs; whnf) <;> rfl), trivial⟩, Nat.zero_le _, hrl, ?_, rfl⟩
        show takeH n r0 = (takeH n r0).map _
        cases takeH n r0 <;> simp
      · rintro ⟨l, r⟩ _ _ ⟨a, cap, ⟨ρ', rfl⟩, hln, hrs, hT, rfl⟩
        have hu := u64_nat (show n - l.length < 18446744073709551616 by omega)
        refine CW.seq_k fun K7 hK7 => ?_
        refine CW.seq_k fun K8 hK8 => ?_
        refine CW.region ?_
        refine OW.q rfl rfl (yq_move rfl (by (conv => lhs; whnf) <;> rfl)) ?_
        refine OW.q rfl rfl (yq_gtr rfl (by (conv => lhs; whnf) <;> rfl) (by (conv => lhs; whnf) <;> rfl)) ?_
        refine OW.nil ?_
        refine hK8 _ _ ?_
        refine CW.cond_dec (by (conv => lhs; whnf) <;> rfl) (fun hc2 => ?_) (fun hc2 => ?_)
        · have hlt : l.length < n := by omega
          refine CW.skip ?_
          refine hK7 _ _ ?_
          refine CW.seq_k fun K9 hK9 => ?_
          refine CW.block ?_
          refine CW.seq_k fun K10 hK10 => ?_
          refine CW.region ?_
          refine OW.q rfl rfl (yq_move rfl (by (conv => lhs; whnf) <;> rfl)) ?_
          rcases Nat.lt_or_ge r.length 32 with h32 | h32
          · have hno : unhashesB s = none := by rw [hU2, hT, show n - l.length = (n - (l.length + 1)) + 1 by omega, takeH_short h32]; rfl
            refine OW.q rfl rfl (yq_call rfl rfl (.cons (by (conv => lhs; whnf) <;> rfl) .nil) en111 (fun w hw => unhash_short r w (by omega) h32)) ?_
            refine OW.q rfl rfl (yq_move rfl (by (conv => lhs; whnf) <;> rfl)) ?_
            refine OW.q rfl rfl (yq_extract rfl (by (conv => lhs; whnf) <;> rfl) rfl) ?_
            refine OW.q rfl rfl (yq_extract rfl (by (conv => lhs; whnf) <;> rfl) rfl) ?_
            refine OW.q rfl rfl (yq_extract rfl (by (conv => lhs; whnf) <;> rfl) rfl) ?_
            refine OW.alloc rfl rfl rfl tz25 (fun b6 => ?_)
            refine OW.storeH rfl rfl rfl (by (conv => lhs; whnf) <;> rfl) (by (conv => lhs; whnf) <;> rfl) ti25 (by repeat' first | exact Put.head | apply Put.tail) (hc_length _) ?_
            refine OW.q rfl rfl (yq_assign rfl (by (conv => lhs; whnf) <;> rfl)) ?_
            refine OW.q rfl rfl (yq_assign rfl (by (conv => lhs; whnf) <;> rfl)) ?_
            refine OW.nil ?_
            refine hK10 _ _ ?_
            refine CW.seq_k fun K11 hK11 => ?_
            refine CW.seq_k fun K12 hK12 => ?_
            refine CW.region ?_
            refine OW.q rfl rfl (yq_move rfl (by (conv => lhs; whnf) <;> rfl)) ?_
            refine OW.q rfl rfl (yq_not rfl (by (conv => lhs; whnf) <;> rfl)) ?_
            refine OW.nil ?_
            refine hK12 _ _ ?_
            refine CW.cond_t (by (conv => lhs; whnf) <;> rfl) ?_
            refine CW.seq_k fun K13 hK13 => ?_
            refine CW.nilrow 25 32 ?_
            refine CW.region ?_
            refine OW.q rfl rfl (yq_assign rfl (by (conv => lhs; whnf) <;> rfl)) ?_
            refine OW.q rfl rfl (yq_assign rfl (by (conv => lhs; whnf) <;> rfl)) ?_
            refine OW.q rfl rfl (yq_assign rfl (by (conv => lhs; whnf) <;> rfl)) ?_
            refine OW.nil ?_
            refine hK13 _ _ ?_
            refine CW.ret ?_
            refine then_ret ?_
            refine blockQ_ret ?_
            refine then_ret ?_
            refine then_ret ?_
            refine blockQ_ret ?_
            refine then_ret ?_
            -- ret (ret)
            rw [unhashesF_none hno]
            exact fin3 (Or.inr rfl) rfl ⟨by decide, (by (conv => lhs; whnf) <;> rfl)⟩ ⟨by decide, (by (conv => lhs; whnf) <;> rfl)⟩ ⟨by decide, (by (conv => lhs; whnf) <;> rfl)⟩ (fun w hw => ⟨_, [.row none 0 0 25 32 []], rfl, hw.sub (by repeat' first | exact List.Sublist.refl _ | exact List.nil_sublist _ | apply List.Sublist.cons_cons | apply List.Sublist.cons), .slice none 0 0, rfl, none, 0, rfl, rfl⟩)
          · refine OW.q rfl rfl (yq_call rfl rfl (.cons (by (conv => lhs; whnf) <;> rfl) .nil) en111 (fun w hw => unhash_long r w (by omega) h32)) ?_
            refine OW.q rfl rfl (yq_move rfl (by (conv => lhs; whnf) <;> rfl)) ?_
            refine OW.q rfl rfl (yq_extract rfl (by (conv => lhs; whnf) <;> rfl) rfl) ?_
            refine OW.q rfl rfl (yq_extract rfl (by (conv => lhs; whnf) <;> rfl) rfl) ?_
            refine OW.q rfl rfl (yq_extract rfl (by (conv => lhs; whnf) <;> rfl) rfl) ?_
            refine OW.alloc rfl rfl rfl tz25 (fun b6 => ?_)
            refine OW.storeH rfl rfl rfl (by (conv => lhs; whnf) <;> rfl) (by (conv => lhs; whnf) <;> rfl) ti25 (by repeat' first | exact Put.head | apply Put.tail) (hc_length _) ?_
            refine OW.q rfl rfl (yq_assign rfl (by (conv => lhs; whnf) <;> rfl)) ?_
            refine OW.q rfl rfl (yq_assign rfl (by (conv => lhs; whnf) <;> rfl)) ?_
            refine OW.nil ?_
            refine hK10 _ _ ?_
            refine CW.seq_k fun K14 hK14 => ?_
            refine CW.seq_k fun K15 hK15 => ?_
            refine CW.region ?_
            refine OW.q rfl rfl (yq_move rfl (by (conv => lhs; whnf) <;> rfl)) ?_
            refine OW.q rfl rfl (yq_not rfl (by (conv => lhs; whnf) <;> rfl)) ?_
            refine OW.nil ?_
            refine hK15 _ _ ?_
            refine CW.cond_f (by (conv => lhs; whnf) <;> rfl) ?_
            refine CW.skip ?_
            refine hK14 _ _ ?_
            refine CW.region ?_
            refine OW.q rfl rfl (yq_move rfl (by (conv => lhs; whnf) <;> rfl)) ?_
            refine OW.q rfl rfl (yq_loadH rfl (by (conv => lhs; whnf) <;> rfl) ti25 (by repeat' first | exact List.mem_cons_self .. | apply List.mem_cons_of_mem)) ?_
            refine OW.slicelit (vs := [HV (toH (r.take 32))]) rfl rfl rfl rfl ts22 ti25 tz25 (by decide) rfl (by decide) (by simp [HV_cells]) (by decide) (cs := hc (toH (r.take 32))) (by simp [HV_cells]) (fun bl => ?_)
            refine OW.append (news := hc (toH (r.take 32))) rfl rfl rfl (by (conv => lhs; whnf) <;> rfl) (by (conv => lhs; whnf) <;> rfl) ts22 ti25 tz25 (by repeat' first | exact Del.head | apply Del.tail) (blk_cells (by repeat' first | exact List.mem_cons_self .. | apply List.mem_cons_of_mem)) (by rw [hc_length]) (hc_one _) (hc_length _) (by decide) (by simp only [maxLen]; omega) (by omega) (fun a3 c3 => ?_)
            refine OW.q rfl rfl (yq_move rfl (by (conv => lhs; whnf) <;> rfl)) ?_
            refine OW.q rfl rfl (yq_assign rfl (by (conv => lhs; whnf) <;> rfl)) ?_
            refine OW.q rfl rfl (yq_assign rfl (by (conv => lhs; whnf) <;> rfl)) ?_
            refine OW.nil ?_
            refine hK9 _ _ ?_
            refine CW.drop (L' := [.row a3 c3 (l.length + 1) 25 32 (l.flatMap hc ++ hc (toH (r.take 32)))]) (by repeat' first | exact List.Sublist.refl _ | exact List.nil_sublist _ | apply List.Sublist.cons_cons | apply List.Sublist.cons) ?_
            refine CW.region ?_
            refine OW.q rfl rfl (yq_move rfl (by (conv => lhs; whnf) <;> rfl)) ?_
            refine OW.q rfl rfl ((yq_sub_u64 (b := 1) rfl (by (conv => lhs; whnf) <;> rfl) (by (conv => lhs; whnf) <;> rfl)).to (v' := U64 (UInt64.ofNat (n - (l.length + 1)))) (by rw [u64_pred (by omega) (by omega)]; rfl)) ?_
            refine OW.q rfl rfl (yq_assign rfl (by (conv => lhs; whnf) <;> rfl)) ?_
            refine OW.nil ?_
            refine ⟨(l ++ [toH (r.take 32)], r.drop 32), ⟨a3, c3, Has.mk ⟨by rw [List.length_append, List.length_singleton]; exact (by (conv => lhs; whnf) <;> rfl), (by (conv => lhs; whnf) <;> rfl), by rw [List.length_append, List.length_singleton]; exact (by (conv => lhs; whnf) <;> rfl), trivial⟩, by rw [List.length_append, List.length_singleton]; omega, by rw [List.length_drop]; omega, ?_, by rw [List.length_append, List.length_singleton, flat_snoc]⟩, by show n - (l ++ [_]).length < n - l.length; rw [List.length_append, List.length_singleton]; omega⟩
            rw [hT, List.length_append, List.length_singleton, show n - l.length = (n - (l.length + 1)) + 1 by omega]
            exact takeH_more h32
        · have hln2 : n = l.length := by omega
          have hyes : unhashesB s = some (l, r) := by rw [hU2, hT, hln2, Nat.sub_self, takeH_zero]; simp
          refine CW.exit ?_
          refine then_exit ?_
          refine then_exit ?_
          refine blockQ_hit ?_
          refine hK6 _ _ ?_
          refine CW.seq_k fun K16 hK16 => ?_
          refine CW.region ?_
          refine OW.q rfl rfl (yq_move rfl (by (conv => lhs; whnf) <;> rfl)) ?_
          refine OW.q rfl rfl (yq_move rfl (by (conv => lhs; whnf) <;> rfl)) ?_
          refine OW.q rfl rfl (yq_assign rfl (by (conv => lhs; whnf) <;> rfl)) ?_
          refine OW.q rfl rfl (yq_assign rfl (by (conv => lhs; whnf) <;> rfl)) ?_
          refine OW.q rfl rfl (yq_assign rfl (by (conv => lhs; whnf) <;> rfl)) ?_
          refine OW.nil ?_
          refine hK16 _ _ ?_
          refine CW.ret ?_
          -- ret (ret)
          rw [unhashesF_some hyes]
          exact fin3 (Or.inr rfl) rfl ⟨by decide, (by (conv => lhs; whnf) <;> rfl)⟩ ⟨by decide, (by (conv => lhs; whnf) <;> rfl)⟩ ⟨by decide, (by (conv => lhs; whnf) <;> rfl)⟩ (fun w hw => ⟨_, _, rfl, hw, _, rfl, a, cap, rfl, rfl⟩)
def hashT (l : List Hash) (j : Nat) : Bytes := numB l.length ++ (l.take j).flatMap hb
theorem hashT_length (l : List Hash) (j : Nat) (h : j ≤ l.length) : (hashT l j).length = (numB l.length).length + 32 * j := by
  unfold hashT
  rw [List.length_append, flatHb_length, List.length_take, Nat.min_eq_left h]
theorem hashT_zero (l : List Hash) : hashT l 0 = numB l.length := by unfold hashT; simp
theorem hashT_succ (l : List Hash) (j : Nat) (h : j < l.length) : hashT l (j + 1) = hashT l j ++ hb (l.getD j zeroHash) := by
  unfold hashT
  rw [List.take_succ_eq_append_getElem h, List.flatMap_append, List.flatMap_singleton, List.append_assoc, List.getD_eq_getElem?_getD, List.getElem?_eq_getElem h]; rfl
theorem hashT_all (l : List Hash) (h : l.length ≤ 64) : hashesB l = hashT l l.length := by
  rw [hashesB_eq, if_neg (by omega)]; unfold hashT; rw [List.take_length]
theorem num_c (k : Nat) (w : World) (h : k < 18446744073709551616) : Calls Tryd.prog 105 #[U64 (UInt64.ofNat k)] w fun e w' => e = .returned (.string (bs (numB k))) ∧ Cl w [] [] w' := by
  have := num_calls (UInt64.ofNat k) w
  rwa [u64_nat h] at this
theorem refnum_c (k : Nat) (w : World) (h : k < 18446744073709551616) : Calls Tryd.prog 131 #[U64 (UInt64.ofNat k)] w fun e w' => e = .returned (.string (bs (numB k))) ∧ Cl w [] [] w' := by
  have := refnum_calls (UInt64.ofNat k) w
  rwa [u64_nat h] at this
set_option maxRecDepth 100000 in
set_option maxHeartbeats 1000000 in
theorem hashes_calls (v : Value) (l : List Hash) (w : World) (hll : l.length ≤ 4294967296) (hs : HsAt w v l) :
    Calls Tryd.prog 107 #[v] w fun e w' => e = .returned (.string (bs (hashesB l))) ∧ Cl w [] [] w' := by
  have hs0 := hs
  obtain ⟨a0, cap0, rfl⟩ := hs0.len
  refine calls_of_CW (L := []) Tryd.func107 rfl (Nat.le_of_ble_eq_true rfl) (Cl.refl _) ?_
  refine CW.seq_k fun K1 hK1 => ?_
  refine CW.region ?_
  refine OW.q rfl rfl (yq_assign rfl (by (conv => lhs; whnf) <;> rfl)) ?_
  refine OW.nil ?_
  refine hK1 _ _ ?_
  refine CW.seq_k fun K2 hK2 => ?_
  refine CW.seq_k fun K3 hK3 => ?_
  refine CW.region ?_
  refine OW.q rfl rfl (yq_move rfl (by (conv => lhs; whnf) <;> rfl)) ?_
  refine OW.q rfl rfl (yq_len_slice rfl ts22 (by (conv => lhs; whnf) <;> rfl)) ?_
  refine OW.q rfl rfl (yq_gtr rfl (by (conv => lhs; whnf) <;> rfl) (by (conv => lhs; whnf) <;> rfl)) ?_
  refine OW.nil ?_
  refine hK3 _ _ ?_
  refine CW.cond_dec (by (conv => lhs; whnf) <;> rfl) (fun hc0 => ?_) (fun hc0 => ?_)
  · refine CW.seq_k fun K4 hK4 => ?_
    refine CW.region ?_
    refine OW.q rfl rfl (yq_assign rfl (by (conv => lhs; whnf) <;> rfl)) ?_
    refine OW.nil ?_
    refine hK4 _ _ ?_
    refine CW.ret ?_
    refine then_ret ?_
    -- ret (ret)
    rw [hashesB_eq, if_pos (by omega)]
    exact fin1 (Or.inr rfl) rfl ⟨by decide, (by (conv => lhs; whnf) <;> rfl)⟩ (fun w hw => ⟨rfl, hw.sub (List.nil_sublist _)⟩)
  · have hl64 : l.length ≤ 64 := by omega
    have hnb := numB_length (n := l.length) (by omega)
    refine CW.skip ?_
    refine hK2 _ _ ?_
    refine CW.seq_k fun K5 hK5 => ?_
    refine CW.region ?_
    refine OW.nilrow 5 1 ?_
    refine OW.alloc rfl rfl rfl tz170 (fun b3 => ?_)
    refine OW.nil ?_
    refine hK5 _ _ ?_
    refine CW.seq_k fun K6 hK6 => ?_
    refine CW.region ?_
    refine OW.q rfl rfl (yq_move rfl (by (conv => lhs; whnf) <;> rfl)) ?_
    refine OW.q rfl rfl (yq_len_slice rfl ts22 (by (conv => lhs; whnf) <;> rfl)) ?_
    refine OW.q rfl rfl (yq_conv_i64_u64 rfl Tryd.underlying3 Tryd.underlying147 (by (conv => lhs; whnf) <;> rfl) (by omega)) ?_
    refine OW.q rfl rfl (yq_call rfl rfl (.cons (by (conv => lhs; whnf) <;> rfl) .nil) en105 (fun w hw => num_c l.length w (by omega))) ?_
    refine OW.callB rfl rfl rfl (by (conv => lhs; whnf) <;> rfl) (.cons (by (conv => lhs; whnf) <;> rfl) (.cons (by (conv => lhs; whnf) <;> rfl) .nil)) en122 (fun w1 hw1 => wstr_calls b3 (.pointer none) none 0 0 [] (numB l.length) (.inl rfl) (by omega) hw1) ?_
    rintro _ _ ⟨rfl, a1, c1, rfl⟩
    refine OW.nil ?_
    refine hK6 _ _ ?_
    refine CW.seq_k fun K7 hK7 => ?_
    refine CW.seq_k fun K8 hK8 => ?_
    refine CW.region ?_
    refine OW.q rfl rfl (yq_move rfl (by (conv => lhs; whnf) <;> rfl)) ?_
    refine OW.q rfl rfl (yq_len_slice rfl ts22 (by (conv => lhs; whnf) <;> rfl)) ?_
    refine OW.q rfl rfl (yq_move rfl (by (conv => lhs; whnf) <;> rfl)) ?_
    refine OW.nil ?_
    refine hK8 _ _ ?_
    refine CW.block ?_
    refine CW.loop (σ := Nat) (fun j ρ L => ∃ a cap, Has ρ [(3, selfP b3), (14, .slice a0 l.length cap0), (15, .int .i64 (l.length : Int)), (16, .int .i64 (j : Int))] ∧ j ≤ l.length ∧ L = [.blk b3 [selfP b3, rowV a (hashT l j).length cap] 170 (0, 0), .row a cap (hashT l j).length 5 1 (bc (hashT l j))]) (fun j => l.length - j) (0) ?_ ?_
    · exact ⟨a1, c1, Has.mk ⟨(by (conv => lhs; whnf) <;> rfl), (by (conv => lhs; whnf) <;> rfl), (by (conv => lhs; whnf) <;> rfl), (by (conv => lhs; whnf) <;> rfl), trivial⟩, Nat.zero_le _, by rw [hashT_zero, Nat.zero_add]; rfl⟩
    · rintro j _ _ ⟨a, cap, ⟨ρ', rfl⟩, hj, rfl⟩
      have hlen := hashT_length l j (by omega)
      refine CW.seq_k fun K9 hK9 => ?_
      refine CW.region ?_
      refine OW.q rfl rfl (yq_lss rfl (by (conv => lhs; whnf) <;> rfl) (by (conv => lhs; whnf) <;> rfl)) ?_
      refine OW.nil ?_
      refine hK9 _ _ ?_
      refine CW.seq_k fun K10 hK10 => ?_
      refine CW.cond_dec (by (conv => lhs; whnf) <;> rfl) (fun hc2 => ?_) (fun hc2 => ?_)
      · have hlt : j < l.length := by omega
        obtain ⟨b, off, cp, hv, hcp⟩ := hs.place (fun e => by subst e; simp at hlt)
        rw [Value.slice.injEq] at hv
        obtain ⟨rfl, _, rfl⟩ := hv
        refine CW.skip ?_
        refine hK10 _ _ ?_
        refine CW.seq_k fun K11 hK11 => ?_
        refine CW.block ?_
        refine CW.seq_k fun K12 hK12 => ?_
        refine CW.region ?_
        refine OW.q rfl rfl (yq_index_slice rfl (by (conv => lhs; whnf) <;> rfl) (by (conv => lhs; whnf) <;> rfl) ts22 ti25 (by omega) (by omega)) ?_
        refine OW.q rfl rfl (yq_load_hs (i := j) (v := l.getD j zeroHash) rfl (by (conv => lhs; whnf) <;> rfl) ti25 (fun w hw => hs.mono hw) (at_of_lt (by omega))) ?_
        refine OW.alloc rfl rfl rfl tz25 (fun b5 => ?_)
        refine OW.storeH rfl rfl rfl (by (conv => lhs; whnf) <;> rfl) (by (conv => lhs; whnf) <;> rfl) ti25 (by repeat' first | exact Put.head | apply Put.tail) (hc_length _) ?_
        refine OW.nil ?_
        refine hK12 _ _ ?_
        refine CW.region ?_
        refine OW.q rfl rfl (yq_loadH (v := l.getD j zeroHash) rfl (by (conv => lhs; whnf) <;> rfl) ti25 (by repeat' first | exact List.mem_cons_self .. | apply List.mem_cons_of_mem)) ?_
        refine OW.drop (List.sublist_cons_self _ _) ?_
        refine OW.q rfl rfl (yq_call rfl rfl (.cons (by (conv => lhs; whnf) <;> rfl) .nil) en103 (fun w hw => hash_calls _ w)) ?_
        refine OW.callB rfl rfl rfl (by (conv => lhs; whnf) <;> rfl) (.cons (by (conv => lhs; whnf) <;> rfl) (.cons (by (conv => lhs; whnf) <;> rfl) .nil)) en122 (fun w1 hw1 => wstr_calls b3 (selfP b3) a cap (hashT l j).length (bc (hashT l j)) (hb (l.getD j zeroHash)) (.inr rfl) (by rw [hb_length]; omega) hw1) ?_
        rintro _ _ ⟨rfl, a1, c1, rfl⟩
        refine OW.nil ?_
        refine hK11 _ _ ?_
        refine CW.region ?_
        refine OW.q rfl rfl (yq_add rfl (by (conv => lhs; whnf) <;> rfl) (by (conv => lhs; whnf) <;> rfl) (by omega)) ?_
        refine OW.q rfl rfl (yq_move rfl (by (conv => lhs; whnf) <;> rfl)) ?_
        refine OW.nil ?_
        refine ⟨j + 1, ⟨a1, c1, Has.mk ⟨(by (conv => lhs; whnf) <;> rfl), (by (conv => lhs; whnf) <;> rfl), (by (conv => lhs; whnf) <;> rfl), (by (conv => lhs; whnf) <;> rfl), trivial⟩, by omega, ?_⟩, by omega⟩
        rw [hashT_succ l j (by omega), List.length_append, bc_app]; rfl
      · have hj5 : j = l.length := by omega
        subst hj5
        refine CW.exit ?_
        refine then_exit ?_
        refine then_exit ?_
        refine blockQ_hit ?_
        refine hK7 _ _ ?_
        refine CW.seq_k fun K13 hK13 => ?_
        refine CW.know _ (know_row (k := (hashT l l.length).length) (by repeat' first | exact List.mem_cons_self .. | apply List.mem_cons_of_mem) (by omega)) ?_
        rintro ⟨g, rfl⟩
        refine CW.region ?_
        refine OW.callB (K := fun v L1 => v = .string (bs (hashT l l.length)) ∧ L1 = [.blk b3 [selfP b3, rowV (some g) (hashT l l.length).length cap] 170 (0, 0)]) rfl rfl rfl (by (conv => lhs; whnf) <;> rfl) (.cons (by (conv => lhs; whnf) <;> rfl) .nil) en123 (fun w1 hw1 => (bstr_calls b3 g (selfP b3) cap (hashT l l.length) (fun e => by rw [e] at hlen; simp at hlen; omega) hw1).mono fun e w' ⟨h1, h2⟩ => ⟨_, _, h1, h2, rfl, rfl⟩) ?_
        rintro _ _ ⟨rfl, rfl⟩
        refine OW.q rfl rfl (yq_assign rfl (by (conv => lhs; whnf) <;> rfl)) ?_
        refine OW.nil ?_
        refine hK13 _ _ ?_
        refine CW.ret ?_
        -- ret (ret)
        rw [hashT_all l hl64]
        exact fin1 (Or.inr rfl) rfl ⟨by decide, (by (conv => lhs; whnf) <;> rfl)⟩ (fun w hw => ⟨rfl, hw.sub (List.nil_sublist _)⟩)
set_option maxRecDepth 100000 in
set_option maxHeartbeats 1000000 in
theorem refhashes_calls (v : Value) (l : List Hash) (w : World) (hll : l.length ≤ 4294967296) (hs : HsAt w v l) :
    Calls Tryd.prog 132 #[v] w fun e w' => e = .returned (.string (bs (hashesB l))) ∧ Cl w [] [] w' := by
  have hs0 := hs
  obtain ⟨a0, cap0, rfl⟩ := hs0.len
  refine calls_of_CW (L := []) Tryd.func132 rfl (Nat.le_of_ble_eq_true rfl) (Cl.refl _) ?_
  refine CW.seq_k fun K1 hK1 => ?_
  refine CW.region ?_
  refine OW.q rfl rfl (yq_assign rfl (by (conv => lhs; whnf) <;> rfl)) ?_
  refine OW.nil ?_
  refine hK1 _ _ ?_
  refine CW.seq_k fun K2 hK2 => ?_
  refine CW.seq_k fun K3 hK3 => ?_
  refine CW.region ?_
  refine OW.q rfl rfl (yq_move rfl (by (conv => lhs; whnf) <;> rfl)) ?_
  refine OW.q rfl rfl (yq_len_slice rfl ts22 (by (conv => lhs; whnf) <;> rfl)) ?_
  refine OW.q rfl rfl (yq_gtr rfl (by (conv => lhs; whnf) <;> rfl) (by (conv => lhs; whnf) <;> rfl)) ?_
  refine OW.nil ?_
  refine hK3 _ _ ?_
  refine CW.cond_dec (by (conv => lhs; whnf) <;> rfl) (fun hc0 => ?_) (fun hc0 => ?_)
  · refine CW.seq_k fun K4 hK4 => ?_
    refine CW.region ?_
    refine OW.q rfl rfl (yq_assign rfl (by (conv => lhs; whnf) <;> rfl)) ?_
    refine OW.nil ?_
    refine hK4 _ _ ?_
    refine CW.ret ?_
    refine then_ret ?_
    -- ret (ret)
    rw [hashesB_eq, if_pos (by omega)]
    exact fin1 (Or.inr rfl) rfl ⟨by decide, (by (conv => lhs; whnf) <;> rfl)⟩ (fun w hw => ⟨rfl, hw.sub (List.nil_sublist _)⟩)
  · have hl64 : l.length ≤ 64 := by omega
    have hnb := numB_length (n := l.length) (by omega)
    refine CW.skip ?_
    refine hK2 _ _ ?_
    refine CW.seq_k fun K5 hK5 => ?_
    refine CW.region ?_
    refine OW.q rfl rfl (yq_move rfl (by (conv => lhs; whnf) <;> rfl)) ?_
    refine OW.q rfl rfl (yq_len_slice rfl ts22 (by (conv => lhs; whnf) <;> rfl)) ?_
    refine OW.q rfl rfl (yq_conv_i64_u64 rfl Tryd.underlying3 Tryd.underlying147 (by (conv => lhs; whnf) <;> rfl) (by omega)) ?_
    refine OW.q rfl rfl (yq_call rfl rfl (.cons (by (conv => lhs; whnf) <;> rfl) .nil) en131 (fun w hw => refnum_c l.length w (by omega))) ?_
    refine OW.q rfl rfl (yq_assign rfl (by (conv => lhs; whnf) <;> rfl)) ?_
    refine OW.nil ?_
    refine hK5 _ _ ?_
    refine CW.seq_k fun K6 hK6 => ?_
    refine CW.seq_k fun K7 hK7 => ?_
    refine CW.region ?_
    refine OW.q rfl rfl (yq_assign rfl (by (conv => lhs; whnf) <;> rfl)) ?_
    refine OW.nil ?_
    refine hK7 _ _ ?_
    refine CW.block ?_
    refine CW.loop (σ := Nat) (fun j ρ L => Has ρ [(0, .slice a0 l.length cap0), (3, .string (bs (hashT l j))), (4, .int .i64 (j : Int))] ∧ j ≤ l.length ∧ L = []) (fun j => l.length - j) (0) ?_ ?_
    · exact ⟨Has.mk ⟨(by (conv => lhs; whnf) <;> rfl), by rw [hashT_zero]; exact (by (conv => lhs; whnf) <;> rfl), (by (conv => lhs; whnf) <;> rfl), trivial⟩, Nat.zero_le _, rfl⟩
    · rintro j _ _ ⟨⟨ρ', rfl⟩, hj, rfl⟩
      have hlen := hashT_length l j (by omega)
      refine CW.seq_k fun K8 hK8 => ?_
      refine CW.seq_k fun K9 hK9 => ?_
      refine CW.region ?_
      refine OW.q rfl rfl (yq_move rfl (by (conv => lhs; whnf) <;> rfl)) ?_
      refine OW.q rfl rfl (yq_move rfl (by (conv => lhs; whnf) <;> rfl)) ?_
      refine OW.q rfl rfl (yq_len_slice rfl ts22 (by (conv => lhs; whnf) <;> rfl)) ?_
      refine OW.q rfl rfl (yq_lss rfl (by (conv => lhs; whnf) <;> rfl) (by (conv => lhs; whnf) <;> rfl)) ?_
      refine OW.nil ?_
      refine hK9 _ _ ?_
      refine CW.cond_dec (by (conv => lhs; whnf) <;> rfl) (fun hc2 => ?_) (fun hc2 => ?_)
      · have hlt : j < l.length := by omega
        obtain ⟨b, off, cp, hv, hcp⟩ := hs.place (fun e => by subst e; simp at hlt)
        rw [Value.slice.injEq] at hv
        obtain ⟨rfl, _, rfl⟩ := hv
        refine CW.skip ?_
        refine hK8 _ _ ?_
        refine CW.seq_k fun K10 hK10 => ?_
        refine CW.block ?_
        refine CW.region ?_
        refine OW.q rfl rfl (yq_move rfl (by (conv => lhs; whnf) <;> rfl)) ?_
        refine OW.q rfl rfl (yq_move rfl (by (conv => lhs; whnf) <;> rfl)) ?_
        refine OW.q rfl rfl (yq_move rfl (by (conv => lhs; whnf) <;> rfl)) ?_
        refine OW.q rfl rfl (yq_index_slice rfl (by (conv => lhs; whnf) <;> rfl) (by (conv => lhs; whnf) <;> rfl) ts22 ti25 (by omega) (by omega)) ?_
        refine OW.q rfl rfl (yq_load_hs (i := j) (v := l.getD j zeroHash) rfl (by (conv => lhs; whnf) <;> rfl) ti25 (fun w hw => hs.mono hw) (at_of_lt (by omega))) ?_
        refine OW.q rfl rfl (yq_call rfl rfl (.cons (by (conv => lhs; whnf) <;> rfl) .nil) en114 (fun w hw => refhash_calls _ w)) ?_
        refine OW.q rfl rfl (yq_add_bs rfl (by (conv => lhs; whnf) <;> rfl) (by (conv => lhs; whnf) <;> rfl) (by rw [hb_length]; omega)) ?_
        refine OW.q rfl rfl (yq_assign rfl (by (conv => lhs; whnf) <;> rfl)) ?_
        refine OW.nil ?_
        refine hK10 _ _ ?_
        refine CW.region ?_
        refine OW.q rfl rfl (yq_move rfl (by (conv => lhs; whnf) <;> rfl)) ?_
        refine OW.q rfl rfl (yq_add rfl (by (conv => lhs; whnf) <;> rfl) (by (conv => lhs; whnf) <;> rfl) (by omega)) ?_
        refine OW.q rfl rfl (yq_assign rfl (by (conv => lhs; whnf) <;> rfl)) ?_
        refine OW.nil ?_
        exact ⟨j + 1, ⟨Has.mk ⟨(by (conv => lhs; whnf) <;> rfl), by rw [hashT_succ l j (by omega)]; exact (by (conv => lhs; whnf) <;> rfl), (by (conv => lhs; whnf) <;> rfl), trivial⟩, by omega, rfl⟩, by omega⟩
      · have hj5 : j = l.length := by omega
        subst hj5
        refine CW.exit ?_
        refine then_exit ?_
        refine then_exit ?_
        refine blockQ_hit ?_
        refine hK6 _ _ ?_
        refine CW.seq_k fun K11 hK11 => ?_
        refine CW.region ?_
        refine OW.q rfl rfl (yq_move rfl (by (conv => lhs; whnf) <;> rfl)) ?_
        refine OW.q rfl rfl (yq_assign rfl (by (conv => lhs; whnf) <;> rfl)) ?_
        refine OW.nil ?_
        refine hK11 _ _ ?_
        refine CW.ret ?_
        -- ret (ret)
        rw [hashT_all l hl64]
        exact fin1 (Or.inr rfl) rfl ⟨by decide, (by (conv => lhs; whnf) <;> rfl)⟩ (fun w hw => ⟨rfl, hw.sub (List.nil_sublist _)⟩)
theorem take_snoc (s : Bytes) (i : Nat) (h : i < s.length) : s.take (i + 1) = s.take i ++ [s.getD i 0] := by
  rw [List.take_succ_eq_append_getElem h, List.getD_eq_getElem?_getD, List.getElem?_eq_getElem h]; rfl
theorem at_byte (s : Bytes) (i : Nat) (h : i < s.length) : s[(i : Int).toNat]? = some (s.getD i 0) := by
  rw [Int.toNat_natCast, List.getD_eq_getElem?_getD, List.getElem?_eq_getElem h]; rfl
set_option maxRecDepth 100000 in
set_option maxHeartbeats 1000000 in
theorem refread_calls (s : Bytes) (w : World) (hs : s.length ≤ 9223372036854775800) :
    Calls Tryd.prog 135 #[.string (bs s)] w fun e w' => e = .returned (readV s) ∧ Cl w [] [] w' := by
  refine calls_of_CW (L := []) Tryd.func135 rfl (Nat.le_of_ble_eq_true rfl) (Cl.refl _) ?_
  refine CW.seq_k fun K1 hK1 => ?_
  refine CW.region ?_
  refine OW.q rfl rfl (yq_assign rfl (by (conv => lhs; whnf) <;> rfl)) ?_
  refine OW.q rfl rfl (yq_assign rfl (by (conv => lhs; whnf) <;> rfl)) ?_
  refine OW.q rfl rfl (yq_assign rfl (by (conv => lhs; whnf) <;> rfl)) ?_
  refine OW.nil ?_
  refine hK1 _ _ ?_
  refine CW.seq_k fun K2 hK2 => ?_
  refine CW.region ?_
  refine OW.q rfl rfl (yq_assign rfl (by (conv => lhs; whnf) <;> rfl)) ?_
  refine OW.nil ?_
  refine hK2 _ _ ?_
  refine CW.seq_k fun K3 hK3 => ?_
  refine CW.block ?_
  refine CW.loop (σ := Nat) (fun k ρ L => Has ρ [(0, .string (bs s)), (5, .int .i64 (k : Int))] ∧ k ≤ s.length ∧ k ≤ 10 ∧ (∀ j, j < k → 128 ≤ (s.getD j 0).toNat) ∧ L = []) (fun k => 10 - k) (0) ?_ ?_
  · exact ⟨Has.mk ⟨(by (conv => lhs; whnf) <;> rfl), (by (conv => lhs; whnf) <;> rfl), trivial⟩, Nat.zero_le _, Nat.zero_le _, fun j hj => by omega, rfl⟩
  · rintro k _ _ ⟨⟨ρ', rfl⟩, hk, hk10, hall, rfl⟩
    refine CW.seq_k fun K4 hK4 => ?_
    refine CW.seq_k fun K5 hK5 => ?_
    refine CW.region ?_
    refine OW.q rfl rfl (yq_move rfl (by (conv => lhs; whnf) <;> rfl)) ?_
    refine OW.q rfl rfl (yq_move rfl (by (conv => lhs; whnf) <;> rfl)) ?_
    refine OW.q rfl rfl (yq_len_bs rfl tt9 (by (conv => lhs; whnf) <;> rfl)) ?_
    refine OW.qb rfl rfl (yq_lss rfl (by (conv => lhs; whnf) <;> rfl) (by (conv => lhs; whnf) <;> rfl)) (fun b11 hb11 => ?_)
    refine OW.q rfl rfl (yq_move rfl (by (conv => lhs; whnf) <;> rfl)) ?_
    apply OW.segAnd 3 [13, 14] 15 hb11
    · intro hb11e
      refine QW.q (by subst hb11e; rfl) rfl (yq_move rfl (by (conv => lhs; whnf) <;> rfl)) ?_
      refine QW.qb (by subst hb11e; rfl) rfl (yq_lss rfl (by (conv => lhs; whnf) <;> rfl) (by (conv => lhs; whnf) <;> rfl)) (fun b14 hb14 => ?_)
      refine QW.q rfl rfl (yq_pick rfl (by (conv => lhs; whnf) <;> rfl) (by subst hb11e; ((conv => lhs; whnf) <;> rfl))) ?_
      exact QW.nil (SegM.mk (any_c (any_c any_n)) (and_run hb11 hb11e hb14))
    · intro hb11e
      refine QW.skip (by subst hb11e; rfl) rfl ?_
      refine QW.skip (by subst hb11e; rfl) rfl ?_
      refine QW.q rfl rfl (yq_pick rfl (by (conv => lhs; whnf) <;> rfl) (by subst hb11e; ((conv => lhs; whnf) <;> rfl))) ?_
      exact QW.nil (SegM.mk (any_c (any_c any_n)) (and_skip hb11 hb11e))
    · intro ρ15 b15 hA hb15
      obtain ⟨x13, x14, rfl⟩ := hA
      refine OW.q rfl rfl (yq_move rfl (by (conv => lhs; whnf) <;> rfl)) ?_
      apply OW.segAnd 5 [17, 18, 19, 20] 21 hb15
      · intro hb15e
        refine QW.q (by subst hb15e; rfl) rfl (yq_move rfl (by (conv => lhs; whnf) <;> rfl)) ?_
        refine QW.q (by subst hb15e; rfl) rfl (yq_move rfl (by (conv => lhs; whnf) <;> rfl)) ?_
        refine QW.q (by subst hb15e; rfl) rfl (yq_index_bs (c := s.getD k 0) rfl (by (conv => lhs; whnf) <;> rfl) (by (conv => lhs; whnf) <;> rfl) tt9 (by omega) (at_byte s k (by have h := hb15.1 hb15e; omega))) ?_
        refine QW.qb (by subst hb15e; rfl) rfl (yq_geq rfl (by (conv => lhs; whnf) <;> rfl) (by (conv => lhs; whnf) <;> rfl)) (fun b20 hb20 => ?_)
        refine QW.q rfl rfl (yq_pick rfl (by (conv => lhs; whnf) <;> rfl) (by subst hb15e; ((conv => lhs; whnf) <;> rfl))) ?_
        exact QW.nil (SegM.mk (any_c (any_c (any_c (any_c any_n)))) (and_run hb15 hb15e hb20))
      · intro hb15e
        refine QW.skip (by subst hb15e; rfl) rfl ?_
        refine QW.skip (by subst hb15e; rfl) rfl ?_
        refine QW.skip (by subst hb15e; rfl) rfl ?_
        refine QW.skip (by subst hb15e; rfl) rfl ?_
        refine QW.q rfl rfl (yq_pick rfl (by (conv => lhs; whnf) <;> rfl) (by subst hb15e; ((conv => lhs; whnf) <;> rfl))) ?_
        exact QW.nil (SegM.mk (any_c (any_c (any_c (any_c any_n)))) (and_skip hb15 hb15e))
      · intro ρ21 b21 hA hb21
        obtain ⟨x17, x18, x19, x20, rfl⟩ := hA
        refine OW.nil ?_
        refine hK5 _ _ ?_
        refine CW.condq (by (conv => lhs; whnf) <;> rfl) hb21 (fun hc1 => ?_) (fun hc1 => ?_)
        · refine CW.skip ?_
          refine hK4 _ _ ?_
          refine CW.block ?_
          refine CW.region ?_
          refine OW.q rfl rfl (yq_move rfl (by (conv => lhs; whnf) <;> rfl)) ?_
          refine OW.q rfl rfl (yq_add rfl (by (conv => lhs; whnf) <;> rfl) (by (conv => lhs; whnf) <;> rfl) (by omega)) ?_
          refine OW.q rfl rfl (yq_assign rfl (by (conv => lhs; whnf) <;> rfl)) ?_
          refine OW.nil ?_
          have hall2 : ∀ j, j < k + 1 → 128 ≤ (s.getD j 0).toNat := by
            intro j hj
            rcases Nat.lt_or_ge j k with h | h
            · exact hall j h
            · obtain rfl : j = k := by omega
              omega
          exact ⟨k + 1, ⟨Has.mk ⟨(by (conv => lhs; whnf) <;> rfl), (by (conv => lhs; whnf) <;> rfl), trivial⟩, by omega, by omega, hall2, rfl⟩, by omega⟩
        · have hend : ¬ ((k < s.length ∧ k < 10) ∧ 128 ≤ (s.getD k 0).toNat) := by omega
          clear hc1
          refine CW.exit ?_
          refine then_exit ?_
          refine then_exit ?_
          refine blockQ_hit ?_
          refine hK3 _ _ ?_
          refine CW.seq_k fun K6 hK6 => ?_
          refine CW.seq_k fun K7 hK7 => ?_
          refine CW.region ?_
          refine OW.q rfl rfl (yq_move rfl (by (conv => lhs; whnf) <;> rfl)) ?_
          refine OW.q rfl rfl (yq_move rfl (by (conv => lhs; whnf) <;> rfl)) ?_
          refine OW.q rfl rfl (yq_len_bs rfl tt9 (by (conv => lhs; whnf) <;> rfl)) ?_
          refine OW.qb rfl rfl (yq_geq rfl (by (conv => lhs; whnf) <;> rfl) (by (conv => lhs; whnf) <;> rfl)) (fun b27 hb27 => ?_)
          refine OW.q rfl rfl (yq_move rfl (by (conv => lhs; whnf) <;> rfl)) ?_
          apply OW.segOr 3 [29, 30] 31 hb27
          · intro hb27e
            refine QW.q (by subst hb27e; rfl) rfl (yq_move rfl (by (conv => lhs; whnf) <;> rfl)) ?_
            refine QW.qb (by subst hb27e; rfl) rfl (yq_gtr rfl (by (conv => lhs; whnf) <;> rfl) (by (conv => lhs; whnf) <;> rfl)) (fun b30 hb30 => ?_)
            refine QW.q rfl rfl (yq_pick rfl (by (conv => lhs; whnf) <;> rfl) (by subst hb27e; ((conv => lhs; whnf) <;> rfl))) ?_
            exact QW.nil (SegM.mk (any_c (any_c any_n)) (or_run hb27 hb27e hb30))
          · intro hb27e
            refine QW.skip (by subst hb27e; rfl) rfl ?_
            refine QW.skip (by subst hb27e; rfl) rfl ?_
            refine QW.q rfl rfl (yq_pick rfl (by (conv => lhs; whnf) <;> rfl) (by subst hb27e; ((conv => lhs; whnf) <;> rfl))) ?_
            exact QW.nil (SegM.mk (any_c (any_c any_n)) (or_skip hb27 hb27e))
          · intro ρ31 b31 hA hb31
            obtain ⟨x29, x30, rfl⟩ := hA
            refine OW.nil ?_
            refine hK7 _ _ ?_
            refine CW.condq (by (conv => lhs; whnf) <;> rfl) hb31 (fun hc3 => ?_) (fun hc3 => ?_)
            · have hno : readB s = none := refread_none hall hk10 hend (by omega)
              refine CW.seq_k fun K8 hK8 => ?_
              refine CW.region ?_
              refine OW.q rfl rfl (yq_assign rfl (by (conv => lhs; whnf) <;> rfl)) ?_
              refine OW.q rfl rfl (yq_assign rfl (by (conv => lhs; whnf) <;> rfl)) ?_
              refine OW.q rfl rfl (yq_assign rfl (by (conv => lhs; whnf) <;> rfl)) ?_
              refine OW.nil ?_
              refine hK8 _ _ ?_
              refine CW.ret ?_
              refine then_ret ?_
              -- ret (ret)
              rw [readV_none hno]
              exact fin3 (Or.inr rfl) rfl ⟨by decide, (by (conv => lhs; whnf) <;> rfl)⟩ ⟨by decide, (by (conv => lhs; whnf) <;> rfl)⟩ ⟨by decide, (by (conv => lhs; whnf) <;> rfl)⟩ (fun w hw => ⟨rfl, hw.sub (List.nil_sublist _)⟩)
            · have hkl : k < s.length := by omega
              have hk9 : k ≤ 9 := by omega
              clear hc3
              refine CW.skip ?_
              refine hK6 _ _ ?_
              refine CW.seq_k fun K9 hK9 => ?_
              refine CW.region ?_
              refine OW.q rfl rfl (yq_assign rfl (by (conv => lhs; whnf) <;> rfl)) ?_
              refine OW.nil ?_
              refine hK9 _ _ ?_
              refine CW.seq_k fun K10 hK10 => ?_
              refine CW.seq_k fun K11 hK11 => ?_
              refine CW.region ?_
              refine OW.q rfl rfl (yq_assign rfl (by (conv => lhs; whnf) <;> rfl)) ?_
              refine OW.nil ?_
              refine hK11 _ _ ?_
              refine CW.block ?_
              refine CW.loop (σ := Nat) (fun i ρ L => Has ρ [(0, .string (bs s)), (5, .int .i64 (k : Int)), (6, U64 (UInt64.ofNat (valB (s.take i)))), (7, .int .i64 (i : Int))] ∧ i ≤ k + 1 ∧ L = []) (fun i => k + 1 - i) (0) ?_ ?_
              · exact ⟨Has.mk ⟨(by (conv => lhs; whnf) <;> rfl), (by (conv => lhs; whnf) <;> rfl), by rw [List.take_zero, show valB [] = 0 by unfold valB; rfl]; exact (by (conv => lhs; whnf) <;> rfl), (by (conv => lhs; whnf) <;> rfl), trivial⟩, Nat.zero_le _, rfl⟩
              · rintro i _ _ ⟨⟨ρ', rfl⟩, hi, rfl⟩
                refine CW.seq_k fun K12 hK12 => ?_
                refine CW.seq_k fun K13 hK13 => ?_
                refine CW.region ?_
                refine OW.q rfl rfl (yq_move rfl (by (conv => lhs; whnf) <;> rfl)) ?_
                refine OW.q rfl rfl (yq_move rfl (by (conv => lhs; whnf) <;> rfl)) ?_
                refine OW.q rfl rfl (yq_leq rfl (by (conv => lhs; whnf) <;> rfl) (by (conv => lhs; whnf) <;> rfl)) ?_
                refine OW.nil ?_
                refine hK13 _ _ ?_
                refine CW.cond_dec (by (conv => lhs; whnf) <;> rfl) (fun hc5 => ?_) (fun hc5 => ?_)
                · refine CW.skip ?_
                  refine hK12 _ _ ?_
                  refine CW.seq_k fun K14 hK14 => ?_
                  refine CW.block ?_
                  refine CW.region ?_
                  refine OW.q rfl rfl (yq_move rfl (by (conv => lhs; whnf) <;> rfl)) ?_
                  refine OW.q rfl rfl (yq_mul_u64 (b := 128) rfl (by (conv => lhs; whnf) <;> rfl) (by (conv => lhs; whnf) <;> rfl)) ?_
                  refine OW.q rfl rfl (yq_move rfl (by (conv => lhs; whnf) <;> rfl)) ?_
                  refine OW.q rfl rfl (yq_move rfl (by (conv => lhs; whnf) <;> rfl)) ?_
                  refine OW.q rfl rfl (yq_index_bs (c := s.getD i 0) rfl (by (conv => lhs; whnf) <;> rfl) (by (conv => lhs; whnf) <;> rfl) tt9 (by omega) (at_byte s i (by omega))) ?_
                  refine OW.q rfl rfl (yq_rem_u8 (b := 128) rfl (by (conv => lhs; whnf) <;> rfl) (by (conv => lhs; whnf) <;> rfl) (by decide)) ?_
                  refine OW.q rfl rfl (yq_conv_u8_u64 rfl Tryd.underlying5 Tryd.underlying147 (by (conv => lhs; whnf) <;> rfl)) ?_
                  refine OW.q rfl rfl (yq_add_u64 rfl (by (conv => lhs; whnf) <;> rfl) (by (conv => lhs; whnf) <;> rfl)) ?_
                  refine OW.q rfl rfl (yq_assign rfl (by (conv => lhs; whnf) <;> rfl)) ?_
                  refine OW.nil ?_
                  refine hK14 _ _ ?_
                  refine CW.region ?_
                  refine OW.q rfl rfl (yq_move rfl (by (conv => lhs; whnf) <;> rfl)) ?_
                  refine OW.q rfl rfl (yq_add rfl (by (conv => lhs; whnf) <;> rfl) (by (conv => lhs; whnf) <;> rfl) (by omega)) ?_
                  refine OW.q rfl rfl (yq_assign rfl (by (conv => lhs; whnf) <;> rfl)) ?_
                  refine OW.nil ?_
                  exact ⟨i + 1, ⟨Has.mk ⟨(by (conv => lhs; whnf) <;> rfl), (by (conv => lhs; whnf) <;> rfl), by rw [take_snoc s i (by omega), ← valB_mod]; exact (by (conv => lhs; whnf) <;> rfl), (by (conv => lhs; whnf) <;> rfl), trivial⟩, by omega, rfl⟩, by omega⟩
                · have hik : i = k + 1 := by omega
                  subst hik
                  refine CW.exit ?_
                  refine then_exit ?_
                  refine then_exit ?_
                  refine blockQ_hit ?_
                  refine hK10 _ _ ?_
                  refine CW.seq_k fun K15 hK15 => ?_
                  refine CW.seq_k fun K16 hK16 => ?_
                  refine CW.draw mixed (by kernel_rfl) ?_
                  refine QW.q rfl rfl (yq_move rfl (by (conv => lhs; whnf) <;> rfl)) ?_
                  refine QW.q rfl rfl (yq_call rfl rfl (.cons (by (conv => lhs; whnf) <;> rfl) .nil) en131 (fun w hw => refnum_calls (UInt64.ofNat (valB (s.take (k + 1)))) w)) ?_
                  refine QW.q rfl rfl (yq_move rfl (by (conv => lhs; whnf) <;> rfl)) ?_
                  refine QW.q rfl rfl (yq_move rfl (by (conv => lhs; whnf) <;> rfl)) ?_
                  refine QW.q rfl rfl (yq_add rfl (by (conv => lhs; whnf) <;> rfl) (by (conv => lhs; whnf) <;> rfl) (by omega)) ?_
                  refine QW.q rfl rfl (yq_slice_bs_to (h := k + 1) rfl (by (conv => lhs; whnf) <;> rfl) tt9 ⟨_, _, (by (conv => lhs; whnf) <;> rfl), by omega, by omega⟩ (by omega)) ?_
                  refine QW.q rfl rfl (yq_neq_bs rfl (by (conv => lhs; whnf) <;> rfl) (by (conv => lhs; whnf) <;> rfl)) ?_
                  refine QW.nil ?_
                  refine hK16 _ _ ?_
                  refine CW.cond_dec (by (conv => lhs; whnf) <;> rfl) (fun hc7 => ?_) (fun hc7 => ?_)
                  · have hno : readB s = none := refread_none hall hk10 hend (.inr (.inr (by rw [UInt64.toNat_ofNat'] at hc7; exact hc7)))
                    refine CW.seq_k fun K17 hK17 => ?_
                    refine CW.region ?_
                    refine OW.q rfl rfl (yq_assign rfl (by (conv => lhs; whnf) <;> rfl)) ?_
                    refine OW.q rfl rfl (yq_assign rfl (by (conv => lhs; whnf) <;> rfl)) ?_
                    refine OW.q rfl rfl (yq_assign rfl (by (conv => lhs; whnf) <;> rfl)) ?_
                    refine OW.nil ?_
                    refine hK17 _ _ ?_
                    refine CW.ret ?_
                    refine then_ret ?_
                    -- ret (ret)
                    rw [readV_none hno]
                    exact fin3 (Or.inr rfl) rfl ⟨by decide, (by (conv => lhs; whnf) <;> rfl)⟩ ⟨by decide, (by (conv => lhs; whnf) <;> rfl)⟩ ⟨by decide, (by (conv => lhs; whnf) <;> rfl)⟩ (fun w hw => ⟨rfl, hw.sub (List.nil_sublist _)⟩)
                  · have hyes : readB s = some (valB (s.take (k + 1)) % 18446744073709551616, s.drop (k + 1)) := refread_some hkl (by rw [UInt64.toNat_ofNat'] at hc7; exact Decidable.byContradiction hc7)
                    have hmod : UInt64.ofNat (valB (s.take (k + 1)) % 18446744073709551616) = UInt64.ofNat (valB (s.take (k + 1))) := by
                      apply UInt64.toNat_inj.1
                      rw [UInt64.toNat_ofNat', UInt64.toNat_ofNat']
                      exact Nat.mod_mod _ _
                    refine CW.skip ?_
                    refine hK15 _ _ ?_
                    refine CW.seq_k fun K18 hK18 => ?_
                    refine CW.draw mixed (by kernel_rfl) ?_
                    refine QW.q rfl rfl (yq_move rfl (by (conv => lhs; whnf) <;> rfl)) ?_
                    refine QW.q rfl rfl (yq_move rfl (by (conv => lhs; whnf) <;> rfl)) ?_
                    refine QW.q rfl rfl (yq_move rfl (by (conv => lhs; whnf) <;> rfl)) ?_
                    refine QW.q rfl rfl (yq_add rfl (by (conv => lhs; whnf) <;> rfl) (by (conv => lhs; whnf) <;> rfl) (by omega)) ?_
                    refine QW.q rfl rfl (yq_slice_bs_from (l := k + 1) rfl (by (conv => lhs; whnf) <;> rfl) tt9 ⟨_, _, (by (conv => lhs; whnf) <;> rfl), by omega, by omega⟩ (by omega)) ?_
                    refine QW.q rfl rfl (yq_assign rfl (by (conv => lhs; whnf) <;> rfl)) ?_
                    refine QW.q rfl rfl (yq_assign rfl (by (conv => lhs; whnf) <;> rfl)) ?_
                    refine QW.q rfl rfl (yq_assign rfl (by (conv => lhs; whnf) <;> rfl)) ?_
                    refine QW.nil ?_
                    refine hK18 _ _ ?_
                    refine CW.ret ?_
                    -- ret (ret)
                    rw [readV_some hyes, hmod]
                    exact fin3 (Or.inr rfl) rfl ⟨by decide, (by (conv => lhs; whnf) <;> rfl)⟩ ⟨by decide, (by (conv => lhs; whnf) <;> rfl)⟩ ⟨by decide, (by (conv => lhs; whnf) <;> rfl)⟩ (fun w hw => ⟨rfl, hw.sub (List.nil_sublist _)⟩)
set_option maxRecDepth 100000 in
set_option maxHeartbeats 1000000 in
theorem refcut_calls (s : Bytes) (w : World) (hs : s.length ≤ 4294967296) :
    Calls Tryd.prog 136 #[.string (bs s)] w fun e w' => e = .returned (cutV s) ∧ Cl w [] [] w' := by
  have hrl := readF_len s
  have hrn := readF_lt s
  have hcr := cutF_read s
  obtain ⟨⟨n, r, ok⟩, hF⟩ : ∃ x, readF s = x := ⟨_, rfl⟩
  rw [hF] at hrl hrn hcr
  simp only at hrl hrn hcr
  have hun := u64_nat hrn
  have hlu : (UInt64.ofNat r.length).toNat = r.length := u64_nat (by omega)
  have hR : ∀ w, Calls Tryd.prog 135 #[.string (bs s)] w fun e w' => e = .returned (.tuple #[U64 (UInt64.ofNat n), .string (bs r), .bool ok]) ∧ Cl w [] [] w' := fun w => by
    have := refread_calls s w (by omega)
    unfold readV at this
    rwa [hF] at this
  refine calls_of_CW (L := []) Tryd.func136 rfl (Nat.le_of_ble_eq_true rfl) (Cl.refl _) ?_
  refine CW.seq_k fun K1 hK1 => ?_
  refine CW.region ?_
  refine OW.q rfl rfl (yq_assign rfl (by (conv => lhs; whnf) <;> rfl)) ?_
  refine OW.q rfl rfl (yq_assign rfl (by (conv => lhs; whnf) <;> rfl)) ?_
  refine OW.q rfl rfl (yq_assign rfl (by (conv => lhs; whnf) <;> rfl)) ?_
  refine OW.nil ?_
  refine hK1 _ _ ?_
  refine CW.seq_k fun K2 hK2 => ?_
  refine CW.region ?_
  refine OW.q rfl rfl (yq_move rfl (by (conv => lhs; whnf) <;> rfl)) ?_
  refine OW.q rfl rfl (yq_call rfl rfl (.cons (by (conv => lhs; whnf) <;> rfl) .nil) en135 (fun w hw => hR w)) ?_
  refine OW.q rfl rfl (yq_move rfl (by (conv => lhs; whnf) <;> rfl)) ?_
  refine OW.q rfl rfl (yq_extract rfl (by (conv => lhs; whnf) <;> rfl) rfl) ?_
  refine OW.q rfl rfl (yq_extract rfl (by (conv => lhs; whnf) <;> rfl) rfl) ?_
  refine OW.q rfl rfl (yq_extract rfl (by (conv => lhs; whnf) <;> rfl) rfl) ?_
  refine OW.q rfl rfl (yq_assign rfl (by (conv => lhs; whnf) <;> rfl)) ?_
  refine OW.q rfl rfl (yq_assign rfl (by (conv => lhs; whnf) <;> rfl)) ?_
  refine OW.q rfl rfl (yq_assign rfl (by (conv => lhs; whnf) <;> rfl)) ?_
  refine OW.nil ?_
  refine hK2 _ _ ?_
  refine CW.seq_k fun K3 hK3 => ?_
  refine CW.seq_k fun K4 hK4 => ?_
  refine CW.region ?_
  refine OW.q rfl rfl (yq_move rfl (by (conv => lhs; whnf) <;> rfl)) ?_
  refine OW.qn rfl rfl (yq_not rfl (by (conv => lhs; whnf) <;> rfl)) (Iff.refl (ok = true)) (fun b15 hb15 => ?_)
  refine OW.q rfl rfl (yq_move rfl (by (conv => lhs; whnf) <;> rfl)) ?_
  apply OW.segOr 6 [17, 18, 19, 20, 21] 22 hb15
  · intro hb15e
    refine QW.q (by subst hb15e; rfl) rfl (yq_move rfl (by (conv => lhs; whnf) <;> rfl)) ?_
    refine QW.q (by subst hb15e; rfl) rfl (yq_move rfl (by (conv => lhs; whnf) <;> rfl)) ?_
    refine QW.q (by subst hb15e; rfl) rfl (yq_len_bs rfl tt9 (by (conv => lhs; whnf) <;> rfl)) ?_
    refine QW.q (by subst hb15e; rfl) rfl ((yq_conv_i64_u64 rfl Tryd.underlying3 Tryd.underlying147 (by (conv => lhs; whnf) <;> rfl) (by omega)).to (v' := U64 (UInt64.ofNat r.length)) (by first | rfl | simp)) ?_
    refine QW.qb (by subst hb15e; rfl) rfl (yq_gtr rfl (by (conv => lhs; whnf) <;> rfl) (by (conv => lhs; whnf) <;> rfl)) (fun b21 hb21 => ?_)
    refine QW.q rfl rfl (yq_pick rfl (by (conv => lhs; whnf) <;> rfl) (by subst hb15e; ((conv => lhs; whnf) <;> rfl))) ?_
    exact QW.nil (SegM.mk (any_c (any_c (any_c (any_c (any_c any_n))))) (or_run hb15 hb15e hb21))
  · intro hb15e
    refine QW.skip (by subst hb15e; rfl) rfl ?_
    refine QW.skip (by subst hb15e; rfl) rfl ?_
    refine QW.skip (by subst hb15e; rfl) rfl ?_
    refine QW.skip (by subst hb15e; rfl) rfl ?_
    refine QW.skip (by subst hb15e; rfl) rfl ?_
    refine QW.q rfl rfl (yq_pick rfl (by (conv => lhs; whnf) <;> rfl) (by subst hb15e; ((conv => lhs; whnf) <;> rfl))) ?_
    exact QW.nil (SegM.mk (any_c (any_c (any_c (any_c (any_c any_n))))) (or_skip hb15 hb15e))
  · intro ρ22 b22 hA hb22
    obtain ⟨x17, x18, x19, x20, x21, rfl⟩ := hA
    refine OW.nil ?_
    refine hK4 _ _ ?_
    refine CW.condq (by (conv => lhs; whnf) <;> rfl) hb22 (fun hc0 => ?_) (fun hc0 => ?_)
    · have hno : ¬ (ok = true ∧ n ≤ r.length) := by
        rintro ⟨h1, h2⟩
        have h3 := hc0.resolve_left (fun h => h h1)
        omega
      refine CW.seq_k fun K5 hK5 => ?_
      refine CW.region ?_
      refine OW.q rfl rfl (yq_assign rfl (by (conv => lhs; whnf) <;> rfl)) ?_
      refine OW.q rfl rfl (yq_assign rfl (by (conv => lhs; whnf) <;> rfl)) ?_
      refine OW.q rfl rfl (yq_assign rfl (by (conv => lhs; whnf) <;> rfl)) ?_
      refine OW.nil ?_
      refine hK5 _ _ ?_
      refine CW.ret ?_
      refine then_ret ?_
      -- ret (ret)
      rw [show cutV s = .tuple #[.string (bs []), .string (bs []), .bool false] by unfold cutV; rw [hcr, if_neg hno]]
      exact fin3 (Or.inr rfl) rfl ⟨by decide, (by (conv => lhs; whnf) <;> rfl)⟩ ⟨by decide, (by (conv => lhs; whnf) <;> rfl)⟩ ⟨by decide, (by (conv => lhs; whnf) <;> rfl)⟩ (fun w hw => ⟨rfl, hw.sub (List.nil_sublist _)⟩)
    · have hok : ok = true := Decidable.byContradiction fun h => hc0 (.inl h)
      have hnr : n ≤ r.length := by
        have h64 : ¬ _ := fun h => hc0 (.inr h)
        omega
      clear hc0
      refine CW.skip ?_
      refine hK3 _ _ ?_
      refine CW.seq_k fun K6 hK6 => ?_
      refine CW.draw mixed (by kernel_rfl) ?_
      refine QW.q rfl rfl (yq_move rfl (by (conv => lhs; whnf) <;> rfl)) ?_
      refine QW.q rfl rfl (yq_move rfl (by (conv => lhs; whnf) <;> rfl)) ?_
      refine QW.q rfl rfl (yq_conv_u64_i64 rfl Tryd.underlying147 Tryd.underlying3 (by (conv => lhs; whnf) <;> rfl) (by omega)) ?_
      refine QW.q rfl rfl (yq_slice_bs_to (h := n) rfl (by (conv => lhs; whnf) <;> rfl) tt9 ⟨_, _, (by (conv => lhs; whnf) <;> rfl), by omega, by omega⟩ hnr) ?_
      refine QW.q rfl rfl (yq_move rfl (by (conv => lhs; whnf) <;> rfl)) ?_
      refine QW.q rfl rfl (yq_move rfl (by (conv => lhs; whnf) <;> rfl)) ?_
      refine QW.q rfl rfl (yq_conv_u64_i64 rfl Tryd.underlying147 Tryd.underlying3 (by (conv => lhs; whnf) <;> rfl) (by omega)) ?_
      refine QW.q rfl rfl (yq_slice_bs_from (l := n) rfl (by (conv => lhs; whnf) <;> rfl) tt9 ⟨_, _, (by (conv => lhs; whnf) <;> rfl), by omega, by omega⟩ hnr) ?_
      refine QW.q rfl rfl (yq_assign rfl (by (conv => lhs; whnf) <;> rfl)) ?_
      refine QW.q rfl rfl (yq_assign rfl (by (conv => lhs; whnf) <;> rfl)) ?_
      refine QW.q rfl rfl (yq_assign rfl (by (conv => lhs; whnf) <;> rfl)) ?_
      refine QW.nil ?_
      refine hK6 _ _ ?_
      refine CW.ret ?_
      -- ret (ret)
      rw [show cutV s = .tuple #[.string (bs (r.take n)), .string (bs (r.drop n)), .bool true] by unfold cutV; rw [hcr, if_pos ⟨hok, hnr⟩]]
      exact fin3 (Or.inr rfl) rfl ⟨by decide, (by (conv => lhs; whnf) <;> rfl)⟩ ⟨by decide, (by (conv => lhs; whnf) <;> rfl)⟩ ⟨by decide, (by (conv => lhs; whnf) <;> rfl)⟩ (fun w hw => ⟨rfl, hw.sub (List.nil_sublist _)⟩)
theorem mul32 {n : Nat} (h : n ≤ 64) : ((32 : UInt64) * UInt64.ofNat n).toNat = 32 * n := by
  rw [UInt64.toNat_mul, u64_nat (by omega)]
  show 32 * n % 18446744073709551616 = _
  omega
theorem takeH_none {n : Nat} {s : Bytes} (h : s.length < 32 * n) : takeH n s = none := by
  have := takeH_len n s
  rw [decide_eq_false (by omega)] at this
  simpa using this
set_option maxRecDepth 100000 in
set_option maxHeartbeats 1000000 in
theorem refunhashes_calls (s : Bytes) (w : World) (hs : s.length ≤ 4294967296) :
    Calls Tryd.prog 137 #[.string (bs s)] w fun e w' => ∃ v L1, e = .returned v ∧ Cl w [] L1 w' ∧ ∃ u, v = .tuple #[u, .string (bs (unhashesF s).2.1), .bool (unhashesF s).2.2] ∧ OutHs u L1 (unhashesF s).1 := by
  have hrl := readF_len s
  have hrn := readF_lt s
  have hB := readB_F s
  have hU := unhashesB_eq s
  obtain ⟨⟨n, r0, ok⟩, hF⟩ : ∃ x, readF s = x := ⟨_, rfl⟩
  rw [hF] at hrl hrn hB
  rw [hB] at hU
  simp only at hrl hrn hU
  have hun := u64_nat hrn
  have hR : ∀ w, Calls Tryd.prog 135 #[.string (bs s)] w fun e w' => e = .returned (.tuple #[U64 (UInt64.ofNat n), .string (bs r0), .bool ok]) ∧ Cl w [] [] w' := fun w => by
    have := refread_calls s w (by omega)
    unfold readV at this
    rwa [hF] at this
  have hlu : (UInt64.ofNat r0.length).toNat = r0.length := u64_nat (by omega)
  refine calls_of_CW (L := []) Tryd.func137 rfl (Nat.le_of_ble_eq_true rfl) (Cl.refl _) ?_
  refine CW.seq_k fun K1 hK1 => ?_
  refine CW.region ?_
  refine OW.q rfl rfl (yq_assign rfl (by (conv => lhs; whnf) <;> rfl)) ?_
  refine OW.q rfl rfl (yq_assign rfl (by (conv => lhs; whnf) <;> rfl)) ?_
  refine OW.q rfl rfl (yq_assign rfl (by (conv => lhs; whnf) <;> rfl)) ?_
  refine OW.nil ?_
  refine hK1 _ _ ?_
  refine CW.seq_k fun K2 hK2 => ?_
  refine CW.region ?_
  refine OW.q rfl rfl (yq_move rfl (by (conv => lhs; whnf) <;> rfl)) ?_
  refine OW.q rfl rfl (yq_call rfl rfl (.cons (by (conv => lhs; whnf) <;> rfl) .nil) en135 (fun w hw => hR w)) ?_
  refine OW.q rfl rfl (yq_move rfl (by (conv => lhs; whnf) <;> rfl)) ?_
  refine OW.q rfl rfl (yq_extract rfl (by (conv => lhs; whnf) <;> rfl) rfl) ?_
  refine OW.q rfl rfl (yq_extract rfl (by (conv => lhs; whnf) <;> rfl) rfl) ?_
  refine OW.q rfl rfl (yq_extract rfl (by (conv => lhs; whnf) <;> rfl) rfl) ?_
  refine OW.q rfl rfl (yq_assign rfl (by (conv => lhs; whnf) <;> rfl)) ?_
  refine OW.q rfl rfl (yq_assign rfl (by (conv => lhs; whnf) <;> rfl)) ?_
  refine OW.q rfl rfl (yq_assign rfl (by (conv => lhs; whnf) <;> rfl)) ?_
  refine OW.nil ?_
  refine hK2 _ _ ?_
  refine CW.seq_k fun K3 hK3 => ?_
  refine CW.seq_k fun K4 hK4 => ?_
  refine CW.region ?_
  refine OW.q rfl rfl (yq_move rfl (by (conv => lhs; whnf) <;> rfl)) ?_
  refine OW.qn rfl rfl (yq_not rfl (by (conv => lhs; whnf) <;> rfl)) (Iff.refl (ok = true)) (fun b20 hb20 => ?_)
  refine OW.q rfl rfl (yq_move rfl (by (conv => lhs; whnf) <;> rfl)) ?_
  apply OW.segOr 3 [22, 23] 24 hb20
  · intro hb20e
    refine QW.q (by subst hb20e; rfl) rfl (yq_move rfl (by (conv => lhs; whnf) <;> rfl)) ?_
    refine QW.qb (by subst hb20e; rfl) rfl (yq_gtr rfl (by (conv => lhs; whnf) <;> rfl) (by (conv => lhs; whnf) <;> rfl)) (fun b23 hb23 => ?_)
    refine QW.q rfl rfl (yq_pick rfl (by (conv => lhs; whnf) <;> rfl) (by subst hb20e; ((conv => lhs; whnf) <;> rfl))) ?_
    exact QW.nil (SegM.mk (any_c (any_c any_n)) (or_run hb20 hb20e hb23))
  · intro hb20e
    refine QW.skip (by subst hb20e; rfl) rfl ?_
    refine QW.skip (by subst hb20e; rfl) rfl ?_
    refine QW.q rfl rfl (yq_pick rfl (by (conv => lhs; whnf) <;> rfl) (by subst hb20e; ((conv => lhs; whnf) <;> rfl))) ?_
    exact QW.nil (SegM.mk (any_c (any_c any_n)) (or_skip hb20 hb20e))
  · intro ρ24 b24 hA hb24
    obtain ⟨x22, x23, rfl⟩ := hA
    refine OW.q rfl rfl (yq_move rfl (by (conv => lhs; whnf) <;> rfl)) ?_
    apply OW.segOr 7 [26, 27, 28, 29, 30, 31] 32 hb24
    · intro hb24e
      refine QW.q (by subst hb24e; rfl) rfl (yq_move rfl (by (conv => lhs; whnf) <;> rfl)) ?_
      refine QW.q (by subst hb24e; rfl) rfl (yq_len_bs rfl tt9 (by (conv => lhs; whnf) <;> rfl)) ?_
      refine QW.q (by subst hb24e; rfl) rfl ((yq_conv_i64_u64 rfl Tryd.underlying3 Tryd.underlying147 (by (conv => lhs; whnf) <;> rfl) (by omega)).to (v' := U64 (UInt64.ofNat r0.length)) (by first | rfl | simp)) ?_
      refine QW.q (by subst hb24e; rfl) rfl (yq_move rfl (by (conv => lhs; whnf) <;> rfl)) ?_
      refine QW.q (by subst hb24e; rfl) rfl (yq_mul_u64 (a := 32) rfl (by (conv => lhs; whnf) <;> rfl) (by (conv => lhs; whnf) <;> rfl)) ?_
      refine QW.qb (by subst hb24e; rfl) rfl (yq_lss rfl (by (conv => lhs; whnf) <;> rfl) (by (conv => lhs; whnf) <;> rfl)) (fun b31 hb31 => ?_)
      refine QW.q rfl rfl (yq_pick rfl (by (conv => lhs; whnf) <;> rfl) (by subst hb24e; ((conv => lhs; whnf) <;> rfl))) ?_
      exact QW.nil (SegM.mk (any_c (any_c (any_c (any_c (any_c (any_c any_n)))))) (or_run hb24 hb24e hb31))
    · intro hb24e
      refine QW.skip (by subst hb24e; rfl) rfl ?_
      refine QW.skip (by subst hb24e; rfl) rfl ?_
      refine QW.skip (by subst hb24e; rfl) rfl ?_
      refine QW.skip (by subst hb24e; rfl) rfl ?_
      refine QW.skip (by subst hb24e; rfl) rfl ?_
      refine QW.skip (by subst hb24e; rfl) rfl ?_
      refine QW.q rfl rfl (yq_pick rfl (by (conv => lhs; whnf) <;> rfl) (by subst hb24e; ((conv => lhs; whnf) <;> rfl))) ?_
      exact QW.nil (SegM.mk (any_c (any_c (any_c (any_c (any_c (any_c any_n)))))) (or_skip hb24 hb24e))
    · intro ρ32 b32 hA hb32
      obtain ⟨x26, x27, x28, x29, x30, x31, rfl⟩ := hA
      refine OW.nil ?_
      refine hK4 _ _ ?_
      refine CW.condq (by (conv => lhs; whnf) <;> rfl) hb32 (fun hc0 => ?_) (fun hc0 => ?_)
      · have hno : unhashesB s = none := by
          rw [hU]
          by_cases hok : ok = true
          · rw [if_pos hok]
            simp only
            by_cases h64 : 64 < n
            · rw [if_pos h64]
            · rw [if_neg h64]
              have h1 := hc0.resolve_left (fun h => h.elim (fun h => h hok) (fun h => by omega))
              rw [hlu, mul32 (by omega)] at h1
              exact takeH_none (by omega)
          · rw [if_neg hok]
        refine CW.seq_k fun K5 hK5 => ?_
        refine CW.nilrow 25 32 ?_
        refine CW.region ?_
        refine OW.q rfl rfl (yq_assign rfl (by (conv => lhs; whnf) <;> rfl)) ?_
        refine OW.q rfl rfl (yq_assign rfl (by (conv => lhs; whnf) <;> rfl)) ?_
        refine OW.q rfl rfl (yq_assign rfl (by (conv => lhs; whnf) <;> rfl)) ?_
        refine OW.nil ?_
        refine hK5 _ _ ?_
        refine CW.ret ?_
        refine then_ret ?_
        -- ret (ret)
        rw [unhashesF_none hno]
        exact fin3 (Or.inr rfl) rfl ⟨by decide, (by (conv => lhs; whnf) <;> rfl)⟩ ⟨by decide, (by (conv => lhs; whnf) <;> rfl)⟩ ⟨by decide, (by (conv => lhs; whnf) <;> rfl)⟩ (fun w hw => ⟨_, [.row none 0 0 25 32 []], rfl, hw.sub (by repeat' first | exact List.Sublist.refl _ | exact List.nil_sublist _ | apply List.Sublist.cons_cons | apply List.Sublist.cons), .slice none 0 0, rfl, none, 0, rfl, rfl⟩)
      · have hok : ok = true := Decidable.byContradiction fun h => hc0 (.inl (.inl h))
        have hn64 : n ≤ 64 := by
          have h64 : ¬ _ := fun h => hc0 (.inl (.inr h))
          omega
        have hlen : 32 * n ≤ r0.length := by
          have h1 : ¬ _ := fun h => hc0 (.inr h)
          rw [hlu, mul32 (by omega)] at h1
          omega
        have hU2 : unhashesB s = takeH n r0 := by rw [hU, if_pos hok]; simp only; rw [if_neg (by omega)]
        clear hc0 hU
        refine CW.skip ?_
        refine hK3 _ _ ?_
        refine CW.seq_k fun K6 hK6 => ?_
        refine CW.nilrow 25 32 ?_
        refine CW.region ?_
        refine OW.q rfl rfl (yq_assign rfl (by (conv => lhs; whnf) <;> rfl)) ?_
        refine OW.nil ?_
        refine hK6 _ _ ?_
        refine CW.seq_k fun K7 hK7 => ?_
        refine CW.seq_k fun K8 hK8 => ?_
        refine CW.region ?_
        refine OW.q rfl rfl (yq_assign rfl (by (conv => lhs; whnf) <;> rfl)) ?_
        refine OW.nil ?_
        refine hK8 _ _ ?_
        refine CW.block ?_
        refine CW.loop (σ := List Hash × Bytes) (fun q ρ L => match q with | (l, r) => ∃ a cap, Has ρ [(5, U64 (UInt64.ofNat n)), (6, .string (bs r)), (8, rowV a l.length cap), (9, .int .i64 (l.length : Int))] ∧ l.length ≤ n ∧ r.length ≤ s.length ∧ 32 * (n - l.length) ≤ r.length ∧ takeH n r0 = (takeH (n - l.length) r).map (fun p => (l ++ p.1, p.2)) ∧ L = [.row a cap l.length 25 32 (l.flatMap hc)]) (fun q => n - q.1.length) (([], r0)) ?_ ?_
        · refine ⟨none, 0, Has.mk ⟨(by (conv => lhs; whnf) <;> rfl), (by (conv => lhs; whnf) <;> rfl), (by (conv => lhs; whnf) <;> rfl), (by (conv => lhs; whnf) <;> rfl), trivial⟩, Nat.zero_le _, hrl, hlen, ?_, rfl⟩
          show takeH n r0 = (takeH n r0).map _
          cases takeH n r0 <;> simp
        · rintro ⟨l, r⟩ _ _ ⟨a, cap, ⟨ρ', rfl⟩, hln, hrs, hrl2, hT, rfl⟩
          refine CW.seq_k fun K9 hK9 => ?_
          refine CW.seq_k fun K10 hK10 => ?_
          refine CW.region ?_
          refine OW.q rfl rfl (yq_move rfl (by (conv => lhs; whnf) <;> rfl)) ?_
          refine OW.q rfl rfl (yq_move rfl (by (conv => lhs; whnf) <;> rfl)) ?_
          refine OW.q rfl rfl (yq_conv_u64_i64 rfl Tryd.underlying147 Tryd.underlying3 (by (conv => lhs; whnf) <;> rfl) (by omega)) ?_
          refine OW.q rfl rfl (yq_lss rfl (by (conv => lhs; whnf) <;> rfl) (by (conv => lhs; whnf) <;> rfl)) ?_
          refine OW.nil ?_
          refine hK10 _ _ ?_
          refine CW.cond_dec (by (conv => lhs; whnf) <;> rfl) (fun hc2 => ?_) (fun hc2 => ?_)
          · have hlt : l.length < n := by omega
            have h32 : 32 ≤ r.length := by omega
            refine CW.skip ?_
            refine hK9 _ _ ?_
            refine CW.seq_k fun K11 hK11 => ?_
            refine CW.block ?_
            refine CW.seq_k fun K12 hK12 => ?_
            refine CW.region ?_
            refine OW.q rfl rfl (yq_move rfl (by (conv => lhs; whnf) <;> rfl)) ?_
            refine OW.q rfl rfl (yq_call rfl rfl (.cons (by (conv => lhs; whnf) <;> rfl) .nil) en129 (fun w hw => refunhash_long r w (by omega) h32)) ?_
            refine OW.q rfl rfl (yq_move rfl (by (conv => lhs; whnf) <;> rfl)) ?_
            refine OW.q rfl rfl (yq_extract rfl (by (conv => lhs; whnf) <;> rfl) rfl) ?_
            refine OW.q rfl rfl (yq_extract rfl (by (conv => lhs; whnf) <;> rfl) rfl) ?_
            refine OW.q rfl rfl (yq_extract rfl (by (conv => lhs; whnf) <;> rfl) rfl) ?_
            refine OW.alloc rfl rfl rfl tz25 (fun b10 => ?_)
            refine OW.storeH rfl rfl rfl (by (conv => lhs; whnf) <;> rfl) (by (conv => lhs; whnf) <;> rfl) ti25 (by repeat' first | exact Put.head | apply Put.tail) (hc_length _) ?_
            refine OW.q rfl rfl (yq_assign rfl (by (conv => lhs; whnf) <;> rfl)) ?_
            refine OW.q rfl rfl (yq_assign rfl (by (conv => lhs; whnf) <;> rfl)) ?_
            refine OW.nil ?_
            refine hK12 _ _ ?_
            refine CW.region ?_
            refine OW.q rfl rfl (yq_move rfl (by (conv => lhs; whnf) <;> rfl)) ?_
            refine OW.q rfl rfl (yq_loadH rfl (by (conv => lhs; whnf) <;> rfl) ti25 (by repeat' first | exact List.mem_cons_self .. | apply List.mem_cons_of_mem)) ?_
            refine OW.slicelit (vs := [HV (toH (r.take 32))]) rfl rfl rfl rfl ts22 ti25 tz25 (by decide) rfl (by decide) (by simp [HV_cells]) (by decide) (cs := hc (toH (r.take 32))) (by simp [HV_cells]) (fun bl => ?_)
            refine OW.append (news := hc (toH (r.take 32))) rfl rfl rfl (by (conv => lhs; whnf) <;> rfl) (by (conv => lhs; whnf) <;> rfl) ts22 ti25 tz25 (by repeat' first | exact Del.head | apply Del.tail) (blk_cells (by repeat' first | exact List.mem_cons_self .. | apply List.mem_cons_of_mem)) (by rw [hc_length]) (hc_one _) (hc_length _) (by decide) (by simp only [maxLen]; omega) (by omega) (fun a3 c3 => ?_)
            refine OW.q rfl rfl (yq_move rfl (by (conv => lhs; whnf) <;> rfl)) ?_
            refine OW.q rfl rfl (yq_assign rfl (by (conv => lhs; whnf) <;> rfl)) ?_
            refine OW.q rfl rfl (yq_assign rfl (by (conv => lhs; whnf) <;> rfl)) ?_
            refine OW.nil ?_
            refine hK11 _ _ ?_
            refine CW.drop (L' := [.row a3 c3 (l.length + 1) 25 32 (l.flatMap hc ++ hc (toH (r.take 32)))]) (by repeat' first | exact List.Sublist.refl _ | exact List.nil_sublist _ | apply List.Sublist.cons_cons | apply List.Sublist.cons) ?_
            refine CW.region ?_
            refine OW.q rfl rfl (yq_move rfl (by (conv => lhs; whnf) <;> rfl)) ?_
            refine OW.q rfl rfl (yq_add rfl (by (conv => lhs; whnf) <;> rfl) (by (conv => lhs; whnf) <;> rfl) (by omega)) ?_
            refine OW.q rfl rfl (yq_assign rfl (by (conv => lhs; whnf) <;> rfl)) ?_
            refine OW.nil ?_
            refine ⟨(l ++ [toH (r.take 32)], r.drop 32), ⟨a3, c3, Has.mk ⟨(by (conv => lhs; whnf) <;> rfl), (by (conv => lhs; whnf) <;> rfl), by rw [List.length_append, List.length_singleton]; exact (by (conv => lhs; whnf) <;> rfl), by rw [List.length_append, List.length_singleton]; exact (by (conv => lhs; whnf) <;> rfl), trivial⟩, by rw [List.length_append, List.length_singleton]; omega, by rw [List.length_drop]; omega, by rw [List.length_append, List.length_singleton, List.length_drop]; omega, ?_, by rw [List.length_append, List.length_singleton, flat_snoc]⟩, by show n - (l ++ [_]).length < n - l.length; rw [List.length_append, List.length_singleton]; omega⟩
            rw [hT, List.length_append, List.length_singleton, show n - l.length = (n - (l.length + 1)) + 1 by omega]
            exact takeH_more h32
          · have hln2 : n = l.length := by omega
            have hyes : unhashesB s = some (l, r) := by rw [hU2, hT, hln2, Nat.sub_self, takeH_zero]; simp
            refine CW.exit ?_
            refine then_exit ?_
            refine then_exit ?_
            refine blockQ_hit ?_
            refine hK7 _ _ ?_
            refine CW.seq_k fun K13 hK13 => ?_
            refine CW.region ?_
            refine OW.q rfl rfl (yq_move rfl (by (conv => lhs; whnf) <;> rfl)) ?_
            refine OW.q rfl rfl (yq_move rfl (by (conv => lhs; whnf) <;> rfl)) ?_
            refine OW.q rfl rfl (yq_assign rfl (by (conv => lhs; whnf) <;> rfl)) ?_
            refine OW.q rfl rfl (yq_assign rfl (by (conv => lhs; whnf) <;> rfl)) ?_
            refine OW.q rfl rfl (yq_assign rfl (by (conv => lhs; whnf) <;> rfl)) ?_
            refine OW.nil ?_
            refine hK13 _ _ ?_
            refine CW.ret ?_
            -- ret (ret)
            rw [unhashesF_some hyes]
            exact fin3 (Or.inr rfl) rfl ⟨by decide, (by (conv => lhs; whnf) <;> rfl)⟩ ⟨by decide, (by (conv => lhs; whnf) <;> rfl)⟩ ⟨by decide, (by (conv => lhs; whnf) <;> rfl)⟩ (fun w hw => ⟨_, _, rfl, hw, _, rfl, a, cap, rfl, rfl⟩)
set_option maxRecDepth 100000 in
set_option maxHeartbeats 1000000 in
theorem equal_calls (a b : List Hash) (va vb : Value) (w : World) (hal : a.length ≤ 4294967296) (ha : HsAt w va a) (hb : HsAt w vb b) :
    Calls Tryd.prog 113 #[va, vb] w fun e w' => e = .returned (.bool (decide (a = b))) ∧ Cl w [] [] w' := by
  have ha0 := ha
  obtain ⟨aa, ca, rfl⟩ := ha0.len
  have hb0 := hb
  obtain ⟨ab, cb, rfl⟩ := hb0.len
  refine calls_of_CW (L := []) Tryd.func113 rfl (Nat.le_of_ble_eq_true rfl) (Cl.refl _) ?_
  refine CW.seq_k fun K1 hK1 => ?_
  refine CW.region ?_
  refine OW.q rfl rfl (yq_assign rfl (by (conv => lhs; whnf) <;> rfl)) ?_
  refine OW.nil ?_
  refine hK1 _ _ ?_
  refine CW.seq_k fun K2 hK2 => ?_
  refine CW.seq_k fun K3 hK3 => ?_
  refine CW.region ?_
  refine OW.q rfl rfl (yq_move rfl (by (conv => lhs; whnf) <;> rfl)) ?_
  refine OW.q rfl rfl (yq_len_slice rfl ts22 (by (conv => lhs; whnf) <;> rfl)) ?_
  refine OW.q rfl rfl (yq_move rfl (by (conv => lhs; whnf) <;> rfl)) ?_
  refine OW.q rfl rfl (yq_len_slice rfl ts22 (by (conv => lhs; whnf) <;> rfl)) ?_
  refine OW.q rfl rfl (yq_neq rfl (by (conv => lhs; whnf) <;> rfl) (by (conv => lhs; whnf) <;> rfl)) ?_
  refine OW.nil ?_
  refine hK3 _ _ ?_
  refine CW.cond_dec (by (conv => lhs; whnf) <;> rfl) (fun hc0 => ?_) (fun hc0 => ?_)
  · refine CW.seq_k fun K4 hK4 => ?_
    refine CW.region ?_
    refine OW.q rfl rfl (yq_assign rfl (by (conv => lhs; whnf) <;> rfl)) ?_
    refine OW.nil ?_
    refine hK4 _ _ ?_
    refine CW.ret ?_
    refine then_ret ?_
    -- ret (ret)
    rw [decide_eq_false (show ¬ a = b from fun h => by subst h; exact hc0 rfl)]
    exact fin1 (Or.inr rfl) rfl ⟨by decide, (by (conv => lhs; whnf) <;> rfl)⟩ (fun w hw => ⟨rfl, hw⟩)
  · have hlen : a.length = b.length := by omega
    refine CW.skip ?_
    refine hK2 _ _ ?_
    refine CW.seq_k fun K5 hK5 => ?_
    refine CW.seq_k fun K6 hK6 => ?_
    refine CW.region ?_
    refine OW.q rfl rfl (yq_move rfl (by (conv => lhs; whnf) <;> rfl)) ?_
    refine OW.q rfl rfl (yq_len_slice rfl ts22 (by (conv => lhs; whnf) <;> rfl)) ?_
    refine OW.q rfl rfl (yq_move rfl (by (conv => lhs; whnf) <;> rfl)) ?_
    refine OW.nil ?_
    refine hK6 _ _ ?_
    refine CW.block ?_
    refine CW.loop (σ := Nat) (fun j ρ L => Has ρ [(0, .slice aa a.length ca), (1, .slice ab b.length cb), (12, .int .i64 (a.length : Int)), (13, .int .i64 (j : Int))] ∧ j ≤ a.length ∧ a.take j = b.take j ∧ L = []) (fun j => a.length - j) (0) ?_ ?_
    · exact ⟨Has.mk ⟨(by (conv => lhs; whnf) <;> rfl), (by (conv => lhs; whnf) <;> rfl), (by (conv => lhs; whnf) <;> rfl), (by (conv => lhs; whnf) <;> rfl), trivial⟩, Nat.zero_le _, rfl, rfl⟩
    · rintro j _ _ ⟨⟨ρ', rfl⟩, hj, htk, rfl⟩
      refine CW.seq_k fun K7 hK7 => ?_
      refine CW.region ?_
      refine OW.q rfl rfl (yq_lss rfl (by (conv => lhs; whnf) <;> rfl) (by (conv => lhs; whnf) <;> rfl)) ?_
      refine OW.nil ?_
      refine hK7 _ _ ?_
      refine CW.seq_k fun K8 hK8 => ?_
      refine CW.cond_dec (by (conv => lhs; whnf) <;> rfl) (fun hc2 => ?_) (fun hc2 => ?_)
      · have hlt : j < a.length := by omega
        obtain ⟨b1, off1, cp1, hv1, hcp1⟩ := ha.place (fun e => by subst e; simp at hlt)
        rw [Value.slice.injEq] at hv1
        obtain ⟨rfl, _, rfl⟩ := hv1
        obtain ⟨b2, off2, cp2, hv2, hcp2⟩ := hb.place (fun e => by subst e; rw [hlen] at hlt; exact absurd hlt (Nat.not_lt_zero _))
        rw [Value.slice.injEq] at hv2
        obtain ⟨rfl, _, rfl⟩ := hv2
        refine CW.skip ?_
        refine hK8 _ _ ?_
        refine CW.seq_k fun K9 hK9 => ?_
        refine CW.block ?_
        refine CW.seq_k fun K10 hK10 => ?_
        refine CW.region ?_
        refine OW.q rfl rfl (yq_move rfl (by (conv => lhs; whnf) <;> rfl)) ?_
        refine OW.q rfl rfl (yq_assign rfl (by (conv => lhs; whnf) <;> rfl)) ?_
        refine OW.nil ?_
        refine hK10 _ _ ?_
        refine CW.seq_k fun K11 hK11 => ?_
        refine CW.draw mixed (by kernel_rfl) ?_
        refine QW.q rfl rfl (yq_move rfl (by (conv => lhs; whnf) <;> rfl)) ?_
        refine QW.q rfl rfl (yq_move rfl (by (conv => lhs; whnf) <;> rfl)) ?_
        refine QW.q rfl rfl (yq_index_slice rfl (by (conv => lhs; whnf) <;> rfl) (by (conv => lhs; whnf) <;> rfl) ts22 ti25 (by omega) (by omega)) ?_
        refine QW.q rfl rfl (yq_load_hs (i := j) (v := a.getD j zeroHash) rfl (by (conv => lhs; whnf) <;> rfl) ti25 (fun w hw => ha.mono hw) (at_of_lt hlt)) ?_
        refine QW.q rfl rfl (yq_move rfl (by (conv => lhs; whnf) <;> rfl)) ?_
        refine QW.q rfl rfl (yq_move rfl (by (conv => lhs; whnf) <;> rfl)) ?_
        refine QW.q rfl rfl (yq_index_slice rfl (by (conv => lhs; whnf) <;> rfl) (by (conv => lhs; whnf) <;> rfl) ts22 ti25 (by omega) (by omega)) ?_
        refine QW.q rfl rfl (yq_load_hs (i := j) (v := b.getD j zeroHash) rfl (by (conv => lhs; whnf) <;> rfl) ti25 (fun w hw => hb.mono hw) (at_of_lt (by omega))) ?_
        refine QW.q rfl rfl (yq_neq_H rfl (by (conv => lhs; whnf) <;> rfl) (by (conv => lhs; whnf) <;> rfl) ta25 Tryd.underlying5 ti5 eg25) ?_
        refine QW.nil ?_
        refine hK11 _ _ ?_
        refine CW.cond_dec (by (conv => lhs; whnf) <;> rfl) (fun hc4 => ?_) (fun hc4 => ?_)
        · refine CW.seq_k fun K12 hK12 => ?_
          refine CW.region ?_
          refine OW.q rfl rfl (yq_assign rfl (by (conv => lhs; whnf) <;> rfl)) ?_
          refine OW.nil ?_
          refine hK12 _ _ ?_
          refine CW.ret ?_
          refine blockQ_ret ?_
          refine then_ret ?_
          refine then_ret ?_
          refine blockQ_ret ?_
          refine then_ret ?_
          -- ret (ret)
          rw [decide_eq_false (show ¬ a = b from fun h => by subst h; exact hc4 rfl)]
          exact fin1 (Or.inr rfl) rfl ⟨by decide, (by (conv => lhs; whnf) <;> rfl)⟩ (fun w hw => ⟨rfl, hw⟩)
        · refine CW.skip ?_
          refine hK9 _ _ ?_
          refine CW.region ?_
          refine OW.q rfl rfl (yq_add rfl (by (conv => lhs; whnf) <;> rfl) (by (conv => lhs; whnf) <;> rfl) (by omega)) ?_
          refine OW.q rfl rfl (yq_move rfl (by (conv => lhs; whnf) <;> rfl)) ?_
          refine OW.nil ?_
          exact ⟨j + 1, ⟨Has.mk ⟨(by (conv => lhs; whnf) <;> rfl), (by (conv => lhs; whnf) <;> rfl), (by (conv => lhs; whnf) <;> rfl), (by (conv => lhs; whnf) <;> rfl), trivial⟩, by omega, by rw [List.take_add_one, List.take_add_one, htk, at_of_lt hlt, at_of_lt (by omega), Decidable.byContradiction hc4], rfl⟩, by omega⟩
      · refine CW.exit ?_
        refine then_exit ?_
        refine then_exit ?_
        refine blockQ_hit ?_
        refine hK5 _ _ ?_
        refine CW.seq_k fun K13 hK13 => ?_
        refine CW.region ?_
        refine OW.q rfl rfl (yq_assign rfl (by (conv => lhs; whnf) <;> rfl)) ?_
        refine OW.nil ?_
        refine hK13 _ _ ?_
        refine CW.ret ?_
        -- ret (ret)
        rw [decide_eq_true (show a = b by have h1 : a.take a.length = b.take a.length := by { rw [show a.length = j by omega]; exact htk }; rwa [List.take_length, hlen, List.take_length] at h1)]
        exact fin1 (Or.inr rfl) rfl ⟨by decide, (by (conv => lhs; whnf) <;> rfl)⟩ (fun w hw => ⟨rfl, hw⟩)
end Go.Proofs.YtahdekllphehkaaDoor
