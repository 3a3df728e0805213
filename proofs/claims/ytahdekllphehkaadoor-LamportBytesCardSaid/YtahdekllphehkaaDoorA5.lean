/- The hash of bytes by the program; no statement of the seat is proved here. -/
import Derived.Test.YtahdekllphehkaaDoorA4
import Derived.Test.YtahdekllphehkaaDoorSh
import Derived.Test.YtahdekllphehkaaDoorL8
set_option linter.unusedVariables false
set_option linter.unusedSimpArgs false
namespace Go.Proofs.YtahdekllphehkaaDoor
open Go.WL Go.Spec

theorem repeatL_one (x : UInt8) (c : Nat) : Lib.repeatL [x] c = List.replicate c x := by
  induction c with
  | zero => rfl
  | succ c ih => rw [Lib.repeatL, ih, List.replicate_succ]; rfl
theorem filledB_length (s : Bytes) : (filledB s).length = 64 * ((filledB s).length / 64) := by
  simp only [filledB, List.length_append, List.length_replicate, putB_length, List.length_cons, List.length_nil]; omega
theorem hc_zero : hc zeroHash = List.replicate 32 (.int .u8 0) := by kernel_rfl
theorem hc_hashOf (l : Bytes) (h : l.length = 32) : hc (hashOf l h) = bc l := by
  unfold hc hashOf Vector.toList; rfl
/-- The hash's cells behind so many words. -/
def outK (v : S8) (i : Nat) : List Value := bc ((v.l.take i).flatMap fun n => putB n.toUInt64 4) ++ List.replicate (32 - 4 * i) (.int .u8 0)
theorem fm_length (l : List UInt32) : (l.flatMap fun n => putB n.toUInt64 4).length = 4 * l.length := by
  induction l with
  | nil => rfl
  | cons x l ih => rw [List.flatMap_cons, List.length_append, ih, putB_length, List.length_cons]; omega
theorem outK_length (v : S8) (i : Nat) (h : i ≤ 8) : (outK v i).length = 32 := by
  simp only [outK, List.length_append, bc_length, fm_length, List.length_replicate, List.length_take, l_length]; omega
theorem outK_spl (v : S8) (i : Nat) (h : i < 8) : spl (outK v i) (4 * i) (bc (putB (v.l.getD i 0).toUInt64 4)) = outK v (i + 1) := by
  have hl : i < v.l.length := by rw [l_length]; exact h
  have h0 : ((v.l.take i).flatMap fun n => putB n.toUInt64 4).length = 4 * i := by rw [fm_length, List.length_take, l_length]; omega
  have e1 : (outK v i).take (4 * i) = bc ((v.l.take i).flatMap fun n => putB n.toUInt64 4) := List.take_left' (by rw [bc_length, h0])
  have e2 : (outK v i).drop (4 * i + 4) = List.replicate (32 - 4 * (i + 1)) (.int .u8 0) := by
    rw [← List.drop_drop, outK, List.drop_left' (by rw [bc_length, h0]), List.drop_replicate]; congr 1
  unfold spl
  rw [bc_length, putB_length, e1, e2, outK, List.take_succ_eq_append_getElem hl, List.flatMap_append]
  simp [bc, List.getD_eq_getElem?_getD, hl]
theorem sha_cells (l : Bytes) : hc (sha l) = outK (blocks8 firstS ((filledB l).length / 64) (filledB l)) 8 := by
  unfold sha
  rw [hc_hashOf]
  simp [outK, outB, S8.l]
theorem take64 {F : Bytes} {N k : Nat} (hF : F.length = 64 * N) (hk : k < N) : ((F.drop (64 * k)).take 64).length = 64 := by simp; omega

set_option maxRecDepth 100000 in
set_option maxHeartbeats 1000000 in
theorem filled_calls (l : Bytes) (w : World) (hs : l.length ≤ 4294967296) :
    Calls Tryd.prog 145 #[.string (bs l)] w fun e w' => e = .returned (.string (bs (filledB l))) ∧ Cl w [] [] w' := by
  have ez : (119 - (l.length : Int) % 64) % 64 = (((64 + 55 - l.length % 64) % 64 : Nat) : Int) := by omega
  refine calls_of_CW (L := []) Tryd.func145 rfl (Nat.le_of_ble_eq_true rfl) (Cl.refl _) ?_
  refine CW.seq_k fun K1 hK1 => ?_
  refine CW.region ?_
  refine OW.q rfl rfl (yq_assign rfl (by (conv => lhs; whnf) <;> rfl)) ?_
  refine OW.nil ?_
  refine hK1 _ _ ?_
  refine CW.seq_k fun K2 hK2 => ?_
  refine CW.region ?_
  refine OW.q rfl rfl (yq_move rfl (by (conv => lhs; whnf) <;> rfl)) ?_
  refine OW.q rfl rfl (yq_len_bs rfl tt9 (by (conv => lhs; whnf) <;> rfl)) ?_
  refine OW.q rfl rfl (yq_rem rfl (by (conv => lhs; whnf) <;> rfl) (by (conv => lhs; whnf) <;> rfl) (by omega)) ?_
  refine OW.q rfl rfl (yq_sub rfl (by (conv => lhs; whnf) <;> rfl) (by (conv => lhs; whnf) <;> rfl) (by omega)) ?_
  refine OW.q rfl rfl (yq_rem rfl (by (conv => lhs; whnf) <;> rfl) (by (conv => lhs; whnf) <;> rfl) (by omega)) ?_
  refine OW.q rfl rfl (yq_assign rfl (by (conv => lhs; whnf) <;> rfl)) ?_
  refine OW.nil ?_
  refine hK2 _ _ ?_
  refine CW.seq_k fun K3 hK3 => ?_
  refine CW.region ?_
  refine OW.q rfl rfl (yq_move rfl (by (conv => lhs; whnf) <;> rfl)) ?_
  refine OW.q rfl rfl (yq_add_bs rfl (by (conv => lhs; whnf) <;> rfl) (by (conv => lhs; whnf) <;> rfl) (by simp only [List.length_cons, List.length_nil]; omega)) ?_
  refine OW.q rfl rfl (yq_move rfl (by (conv => lhs; whnf) <;> rfl)) ?_
  refine OW.q rfl rfl (yq_call rfl rfl (.cons (by (conv => lhs; whnf) <;> rfl) ( .cons (by (conv => lhs; whnf) <;> rfl) .nil)) en157 (fun w hw => by rw [ez]; exact (Tryd.strings_Repeat ⟨#[0]⟩ _ w (by omega) (by show 1 * _ ≤ _; omega)).mono fun e w1 ⟨h1, h2⟩ => ⟨h1.trans (by rw [show (⟨#[0]⟩ : ByteArray).data.toList = [0] from rfl, repeatL_one]), Cl.of_below h2⟩)) ?_
  refine OW.q rfl rfl (yq_add_bs (b := List.replicate ((64 + 55 - l.length % 64) % 64) 0) rfl (by (conv => lhs; whnf) <;> rfl) (by (conv => lhs; whnf) <;> rfl) (by simp only [List.length_append, List.length_replicate, List.length_cons, List.length_nil]; omega)) ?_
  refine OW.q rfl rfl (yq_move rfl (by (conv => lhs; whnf) <;> rfl)) ?_
  refine OW.q rfl rfl (yq_len_bs rfl tt9 (by (conv => lhs; whnf) <;> rfl)) ?_
  refine OW.q rfl rfl (yq_conv_i64_u64 rfl Tryd.underlying3 Tryd.underlying147 (by (conv => lhs; whnf) <;> rfl) (by omega)) ?_
  refine OW.q rfl rfl (yq_mul_u64 (b := 8) rfl (by (conv => lhs; whnf) <;> rfl) (by (conv => lhs; whnf) <;> rfl)) ?_
  refine OW.q rfl rfl (yq_call rfl rfl (.cons (by (conv => lhs; whnf) <;> rfl) ( .cons (by (conv => lhs; whnf) <;> rfl) .nil)) en125 (fun w hw => put_calls _ 8 w (by decide) (by decide))) ?_
  refine OW.q rfl rfl (yq_add_bs rfl (by (conv => lhs; whnf) <;> rfl) (by (conv => lhs; whnf) <;> rfl) (by simp only [List.length_append, List.length_replicate, putB_length, List.length_cons, List.length_nil]; omega)) ?_
  refine OW.q rfl rfl (yq_assign rfl (by (conv => lhs; whnf) <;> rfl)) ?_
  refine OW.nil ?_
  refine hK3 _ _ ?_
  refine CW.ret ?_
  -- ret (ret)
  exact fin1 (Or.inr rfl) rfl ⟨by decide, (by (conv => lhs; whnf) <;> rfl)⟩ (fun w hw => ⟨by unfold filledB; rw [Int.toNat_natCast], hw⟩)

set_option maxRecDepth 100000 in
set_option maxHeartbeats 1000000 in
theorem sum_calls (l : Bytes) (w : World) (hs : l.length ≤ 4294967296) (hg : GL w) :
    Calls Tryd.prog 100 #[.string (bs l)] w fun e w' => e = .returned (HV (sha l)) ∧ Cl w [] [] w' := by
  obtain ⟨F, hF0⟩ : ∃ F, F = filledB l := ⟨_, rfl⟩
  obtain ⟨N, hN⟩ : ∃ N, N = F.length / 64 := ⟨_, rfl⟩
  have hF : F.length = 64 * N := by rw [hN, hF0]; exact filledB_length l
  have hsha : hc (sha l) = outK (blocks8 firstS N F) 8 := by rw [sha_cells, hN, hF0]
  have hfil : ∀ w, Calls Tryd.prog 145 #[.string (bs l)] w fun e w1 => e = .returned (.string (bs F)) ∧ Cl w [] [] w1 := by rw [hF0]; exact fun w => filled_calls l w hs
  refine calls_of_CW (L := []) Tryd.func100 rfl (Nat.le_of_ble_eq_true rfl) (Cl.refl _) ?_
  refine CW.seq_k fun K1 hK1 => ?_
  refine CW.region ?_
  refine OW.alloc rfl rfl rfl tz25 (fun b2 => ?_)
  refine OW.nil ?_
  refine hK1 _ _ ?_
  refine CW.seq_k fun K2 hK2 => ?_
  refine CW.region ?_
  refine OW.q rfl rfl (yq_load_c (v := V8 firstS) rfl (by (conv => lhs; whnf) <;> rfl) (fun w hw => run_load_agg (vs := firstS.l.map U32) ti188 fun j u hu => by rw [Nat.zero_add]; exact (Cl_gl0 hw hg).1 j u hu)) ?_
  refine OW.alloc rfl rfl rfl tz188 (fun b3 => ?_)
  refine OW.store' rfl rfl rfl (by (conv => lhs; whnf) <;> rfl) (by (conv => lhs; whnf) <;> rfl) (vs := firstS.l.map U32) ti188 rfl (U32_one _) .head (spl_all _ _ rfl) (by decide) ?_
  refine OW.nil ?_
  refine hK2 _ _ ?_
  refine CW.seq_k fun K3 hK3 => ?_
  refine CW.seq_k fun K4 hK4 => ?_
  refine CW.region ?_
  refine OW.q rfl rfl (yq_move rfl (by (conv => lhs; whnf) <;> rfl)) ?_
  refine OW.q rfl rfl (yq_call rfl rfl (.cons (by (conv => lhs; whnf) <;> rfl) .nil) en145 (fun w hw => hfil w)) ?_
  refine OW.q rfl rfl (yq_assign rfl (by (conv => lhs; whnf) <;> rfl)) ?_
  refine OW.nil ?_
  refine hK4 _ _ ?_
  refine CW.block ?_
  refine CW.loop (σ := Nat × S8) (fun p ρ L => Has ρ [(2, .pointer (some ⟨b2, 0, none⟩)), (3, .pointer (some ⟨b3, 0, none⟩)), (4, .string (bs (F.drop (64 * p.1))))] ∧ p.1 ≤ N ∧ blocks8 p.2 (N - p.1) (F.drop (64 * p.1)) = blocks8 firstS N F ∧ L = [.blk b3 (p.2.l.map U32) 188 (0, 0), .blk b2 (hc zeroHash) 25 (0, 0)]) (fun p => N - p.1) ((0, firstS)) ?_ ?_
  · exact ⟨Has.mk ⟨(by (conv => lhs; whnf) <;> rfl), (by (conv => lhs; whnf) <;> rfl), (by (conv => lhs; whnf) <;> rfl), trivial⟩, Nat.zero_le _, rfl, rfl⟩
  · rintro ⟨k, v⟩ _ _ ⟨⟨ρ', rfl⟩, hk, hb, rfl⟩
    refine CW.seq_k fun K5 hK5 => ?_
    refine CW.seq_k fun K6 hK6 => ?_
    refine CW.region ?_
    refine OW.q rfl rfl (yq_move rfl (by (conv => lhs; whnf) <;> rfl)) ?_
    refine OW.q rfl rfl (yq_neq_bs rfl (by (conv => lhs; whnf) <;> rfl) (by (conv => lhs; whnf) <;> rfl)) ?_
    refine OW.nil ?_
    refine hK6 _ _ ?_
    refine CW.cond_dec (by (conv => lhs; whnf) <;> rfl) (fun hc1 => ?_) (fun hc1 => ?_)
    · have hlt : k < N := by
        rcases Nat.lt_or_ge k N with h | h
        · exact h
        · exact absurd (List.drop_eq_nil_of_le (by show F.length ≤ 64 * k; omega)) hc1
      have h64 := take64 hF hlt
      obtain ⟨X, hX⟩ : ∃ X, X = (F.drop (64 * k)).take 64 := ⟨_, rfl⟩
      obtain ⟨v2, hv2⟩ : ∃ v2, v2 = mix8 v X := ⟨_, rfl⟩
      have hmix : ∀ w, GL w → Calls Tryd.prog 146 #[V8 v, .string (bs X)] w fun e w1 => e = .returned (V8 v2) ∧ Cl w [] [] w1 := by
        intro w hg
        rw [hv2]
        have h := mix_calls v (bs X) w (by rw [hX]; exact h64) hg
        rw [bs_toList] at h
        exact h
      refine CW.skip ?_
      refine hK5 _ _ ?_
      refine CW.seq_k fun K7 hK7 => ?_
      refine CW.block ?_
      refine CW.drawT 4 mixed (by kernel_rfl) ?_
      refine QW.q rfl rfl (yq_loadW (cs := v.l.map U32) rfl (by (conv => lhs; whnf) <;> rfl) ti188 (List.mem_cons_self ..)) ?_
      refine QW.q rfl rfl (yq_move rfl (by (conv => lhs; whnf) <;> rfl)) ?_
      refine QW.q rfl rfl (yq_slice_bs_to (h := 64) rfl (by (conv => lhs; whnf) <;> rfl) tt9 ⟨_, _, (by (conv => lhs; whnf) <;> rfl), by decide, rfl⟩ (by have := h64; simp at this; simp; omega)) ?_
      refine QW.q rfl rfl (yq_call rfl rfl (.cons (by (conv => lhs; whnf) <;> rfl) ( .cons (by (conv => lhs; whnf) <;> rfl) .nil)) en146 (fun w hw => by rw [← hX]; exact hmix w (Cl_gl0 hw hg))) ?_
      refine QW.nil ?_
      refine OW.store' rfl rfl rfl (by (conv => lhs; whnf) <;> rfl) (by (conv => lhs; whnf) <;> rfl) (vs := v2.l.map U32) ti188 rfl (U32_one _) .head (spl_all _ _ rfl) (by simp [l_length]) ?_
      refine OW.nil ?_
      refine hK7 _ _ ?_
      refine CW.region ?_
      refine OW.q rfl rfl (yq_move rfl (by (conv => lhs; whnf) <;> rfl)) ?_
      refine OW.q rfl rfl (yq_slice_bs_from (l := 64) rfl (by (conv => lhs; whnf) <;> rfl) tt9 ⟨_, _, (by (conv => lhs; whnf) <;> rfl), by decide, rfl⟩ (by simp; omega)) ?_
      refine OW.q rfl rfl (yq_assign rfl (by (conv => lhs; whnf) <;> rfl)) ?_
      refine OW.nil ?_
      refine ⟨(k + 1, v2), ⟨Has.mk ⟨(by (conv => lhs; whnf) <;> rfl), (by (conv => lhs; whnf) <;> rfl), ?_, trivial⟩, hlt, ?_, rfl⟩, by show N - (k + 1) < N - k; omega⟩
      · conv => lhs; whnf
        rw [List.drop_drop, show 64 * (k + 1) = 64 * k + 64 by omega]
      · rw [← hb, show N - k = (N - (k + 1)) + 1 by omega, blocks8_succ, List.drop_drop, show 64 * (k + 1) = 64 * k + 64 by omega, hv2, hX]
    · have hkN : k = N := by
        rcases Nat.lt_or_ge k N with h | h
        · exact absurd (fun e => by have := congrArg List.length e; simp at this; omega) hc1
        · omega
      clear hk hc1
      subst hkN
      have hv : v = blocks8 firstS k F := by rw [← hb, Nat.sub_self, blocks8_zero]
      clear hb
      refine CW.exit ?_
      refine then_exit ?_
      refine then_exit ?_
      refine blockQ_hit ?_
      refine hK3 _ _ ?_
      refine CW.seq_k fun K8 hK8 => ?_
      refine CW.region ?_
      refine OW.alloc rfl rfl rfl tz25 (fun b5 => ?_)
      refine OW.nil ?_
      refine hK8 _ _ ?_
      refine CW.seq_k fun K9 hK9 => ?_
      refine CW.seq_k fun K10 hK10 => ?_
      refine CW.region ?_
      refine OW.q rfl rfl (yq_loadW (cs := v.l.map U32) rfl (by (conv => lhs; whnf) <;> rfl) ti188 (List.mem_cons_of_mem _ (List.mem_cons_self ..))) ?_
      refine OW.q rfl rfl (yq_move rfl (by (conv => lhs; whnf) <;> rfl)) ?_
      refine OW.nil ?_
      refine hK10 _ _ ?_
      refine CW.block ?_
      refine CW.loop (σ := Nat) (fun i ρ L => Has ρ [(2, .pointer (some ⟨b2, 0, none⟩)), (5, .pointer (some ⟨b5, 0, none⟩)), (19, V8 v), (20, .int .i64 (i : Int))] ∧ i ≤ 8 ∧ L = [.blk b5 (outK v i) 25 (0, 0), .blk b3 (v.l.map U32) 188 (0, 0), .blk b2 (hc zeroHash) 25 (0, 0)]) (fun i => 8 - i) (0) ?_ ?_
      · exact ⟨Has.mk ⟨(by (conv => lhs; whnf) <;> rfl), (by (conv => lhs; whnf) <;> rfl), (by (conv => lhs; whnf) <;> rfl), (by (conv => lhs; whnf) <;> rfl), trivial⟩, Nat.zero_le _, by rw [hc_zero]; rfl⟩
      · rintro i _ _ ⟨⟨ρ', rfl⟩, hi, rfl⟩
        refine CW.seq_k fun K11 hK11 => ?_
        refine CW.region ?_
        refine OW.q rfl rfl (yq_lss rfl (by (conv => lhs; whnf) <;> rfl) (by (conv => lhs; whnf) <;> rfl)) ?_
        refine OW.nil ?_
        refine hK11 _ _ ?_
        refine CW.seq_k fun K12 hK12 => ?_
        refine CW.cond_dec (by (conv => lhs; whnf) <;> rfl) (fun hc4 => ?_) (fun hc4 => ?_)
        · refine CW.skip ?_
          refine hK12 _ _ ?_
          refine CW.seq_k fun K13 hK13 => ?_
          refine CW.block ?_
          refine CW.seq_k fun K14 hK14 => ?_
          refine CW.region ?_
          refine OW.q rfl rfl (yq_move rfl (by (conv => lhs; whnf) <;> rfl)) ?_
          refine OW.q rfl rfl (yq_indexV1 (s := 1) (cs := v.l.map U32) rfl (by (conv => lhs; whnf) <;> rfl) (by (conv => lhs; whnf) <;> rfl) ta188 ti187 (by omega) (by omega) (by rw [Int.toNat_natCast]; exact l_at _ _ (by omega))) ?_
          refine OW.q rfl rfl (yq_assign rfl (by (conv => lhs; whnf) <;> rfl)) ?_
          refine OW.q rfl rfl (yq_assign rfl (by (conv => lhs; whnf) <;> rfl)) ?_
          refine OW.nil ?_
          refine hK14 _ _ ?_
          refine CW.drawT 6 mixed (by kernel_rfl) ?_
          refine QW.q rfl rfl (yq_move rfl (by (conv => lhs; whnf) <;> rfl)) ?_
          refine QW.q rfl rfl (yq_mul rfl (by (conv => lhs; whnf) <;> rfl) (by (conv => lhs; whnf) <;> rfl) (by omega)) ?_
          refine QW.q rfl rfl (yq_slice_arr (l := 4 * i) rfl (by (conv => lhs; whnf) <;> rfl) ta25 ti5 ⟨_, _, (by (conv => lhs; whnf) <;> rfl), by omega, by omega⟩ rfl (by omega) (Nat.le_refl _)) ?_
          rw [show (if 32 = 4 * i then 0 else 0 + 4 * i * 1) = 4 * i by split <;> omega]
          refine QW.q rfl rfl (yq_move rfl (by (conv => lhs; whnf) <;> rfl)) ?_
          refine QW.q rfl rfl (yq_conv_u32_u64 rfl Tryd.underlying187 Tryd.underlying147 (by (conv => lhs; whnf) <;> rfl)) ?_
          refine QW.q rfl rfl (yq_call rfl rfl (.cons (by (conv => lhs; whnf) <;> rfl) ( .cons (by (conv => lhs; whnf) <;> rfl) .nil)) en125 (fun w hw => put_calls _ 4 w (by decide) (by decide))) ?_
          refine QW.nil ?_
          refine OW.copy_bs rfl rfl rfl (by (conv => lhs; whnf) <;> rfl) (by (conv => lhs; whnf) <;> rfl) ts92 ti5 (by rw [putB_length]; omega) .head (outK_spl v i (by omega)) (by rw [putB_length, outK_length _ _ (by omega)]; omega) ?_
          refine OW.nil ?_
          refine hK13 _ _ ?_
          refine CW.region ?_
          refine OW.q rfl rfl (yq_add rfl (by (conv => lhs; whnf) <;> rfl) (by (conv => lhs; whnf) <;> rfl) (by omega)) ?_
          refine OW.q rfl rfl (yq_move rfl (by (conv => lhs; whnf) <;> rfl)) ?_
          refine OW.nil ?_
          exact ⟨i + 1, ⟨Has.mk ⟨(by (conv => lhs; whnf) <;> rfl), (by (conv => lhs; whnf) <;> rfl), (by (conv => lhs; whnf) <;> rfl), (by (conv => lhs; whnf) <;> rfl), trivial⟩, by omega, rfl⟩, by omega⟩
        · have hi8 : i = 8 := by omega
          clear hi hc4
          subst hi8
          refine CW.exit ?_
          refine then_exit ?_
          refine then_exit ?_
          refine blockQ_hit ?_
          refine hK9 _ _ ?_
          refine CW.seq_k fun K15 hK15 => ?_
          refine CW.region ?_
          refine OW.q rfl rfl (yq_loadW (cs := outK v 8) rfl (by (conv => lhs; whnf) <;> rfl) (by rw [outK_length _ _ (Nat.le_refl _)]; exact ti25) (List.mem_cons_self ..)) ?_
          refine OW.store' rfl rfl rfl (by (conv => lhs; whnf) <;> rfl) (by (conv => lhs; whnf) <;> rfl) (vs := outK v 8) (by rw [outK_length _ _ (Nat.le_refl _)]; exact ti25) rfl (by rw [← (show hc (sha l) = outK v 8 by rw [hsha, hv])]; exact hc_one _) (.tail (.tail .head)) (spl_all _ _ (by rw [outK_length _ _ (Nat.le_refl _), hc_length])) (by rw [outK_length _ _ (Nat.le_refl _), hc_length]; decide) ?_
          refine OW.nil ?_
          refine hK15 _ _ ?_
          refine CW.ret ?_
          -- ret (ret)
          refine fin1 (Or.inr rfl) rfl (rv_cell (cs := outK v 8) (by decide) (by (conv => lhs; whnf) <;> rfl) (by rw [outK_length _ _ (Nat.le_refl _)]; exact ti25) (List.mem_cons_of_mem _ (List.mem_cons_of_mem _ (List.mem_cons_self ..)))) (fun w hw => ⟨?_, hw.sub (by simp)⟩)
          rw [HV, hsha, hv]

end Go.Proofs.YtahdekllphehkaaDoor
