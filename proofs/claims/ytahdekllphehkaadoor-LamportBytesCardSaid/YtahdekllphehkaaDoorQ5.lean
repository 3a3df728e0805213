/- What is recovered of a signature; no statement of the seat is proved here. -/
import Derived.Test.YtahdekllphehkaaDoorQ4
set_option linter.unusedVariables false
set_option linter.unusedSimpArgs false
namespace Go.Proofs.YtahdekllphehkaaDoor
open Go.WL Go.Spec

theorem cut32_eq (s : Bytes) (i : Nat) : cut32 s i = (s.drop (32 * i)).take 32 := by unfold cut32; rfl
theorem cut32_length (s : Bytes) (i : Nat) (h : 32 * i + 32 ≤ s.length) : (cut32 s i).length = 32 := by rw [cut32_eq, List.length_take, List.length_drop]; omega
theorem recK_hit (s d : Bytes) (j : Nat) : recK s d (2 * j + bitB d j) = shownL (cut32 s j) := by
  have := bitB_lt d j
  unfold recK
  rw [show (2 * j + bitB d j) / 2 = j by omega, if_pos (by omega)]
theorem recK_miss (s d : Bytes) (j : Nat) : recK s d (2 * j + 1 - bitB d j) = toH (cut32 s (256 + j)) := by
  have := bitB_lt d j
  unfold recK
  rw [show (2 * j + 1 - bitB d j) / 2 = j by omega, if_neg (by omega)]
theorem recL_fill (s d : Bytes) : fillL (recK s d) 512 512 = recL s d := by rw [fillL_all]; unfold recL; rfl
theorem fill_two (f : Nat → Hash) (n j b : Nat) (hb : b < 2) (hj : 2 * j + 1 < n) : ((fillL f n (2 * j)).set (2 * j + b) (f (2 * j + b))).set (2 * j + 1 - b) (f (2 * j + 1 - b)) = fillL f n (2 * (j + 1)) := by
  have e1 := fillL_set f n (2 * j) (by omega)
  have e2 := fillL_set f n (2 * j + 1) (by omega)
  rcases (by omega : b = 0 ∨ b = 1) with rfl | rfl
  · rw [Nat.add_zero, e1, Nat.sub_zero, e2]; rfl
  · rw [show 2 * j + 1 - 1 = 2 * j by omega, List.set_comm _ _ (by omega), e1, e2]; rfl
def recV (s d : Bytes) : Value := if s.length ≠ 16384 then .tuple #[HV zeroHash, .int .i64 10] else .tuple #[HV (keyLeaf (recL s d)), .int .i64 0]
theorem recV_bad {s d : Bytes} (h : s.length ≠ 16384) : recV s d = .tuple #[HV zeroHash, .int .i64 10] := if_pos h
theorem recV_ok {s d : Bytes} (h : s.length = 16384) : recV s d = .tuple #[HV (keyLeaf (recL s d)), .int .i64 0] := if_neg (by omega)
theorem unhash_at {f : Nat} {s : Bytes} {w : World} (i : Nat) (t : Bytes) (ht : t = s.drop (32 * i)) (h : 32 * i + 32 ≤ s.length)
    (hc' : Calls Tryd.prog f #[.string (bs t)] w fun e w' => e = .returned (unhashV t) ∧ Cl w [] [] w') :
    Calls Tryd.prog f #[.string (bs t)] w fun e w' => e = .returned (.tuple #[HV (toH (cut32 s i)), .string (bs (t.drop 32)), .bool true]) ∧ Cl w [] [] w' := by
  rw [unhashV_long (by rw [ht, List.length_drop]; omega)] at hc'
  rwa [cut32_eq, ← ht]
theorem hsFull {w : World} {b k : Nat} {T : TypeId} {fz : Nat × Nat} {l : List Hash} (hk : l.length = k) (h : (Ent.blk b (l.flatMap hc) T fz).ok w) : HsAt w (.slice (some ⟨b, 0, none⟩) k k) l := by
  subst hk
  exact HsAt.blk (Nat.le_refl _) (fun j u hu => hu) h

set_option maxRecDepth 100000 in
set_option maxHeartbeats 1000000 in
theorem recover_calls (s : Bytes) (h : Hash) (w : World) (hs : s.length ≤ 9223372036854775807) (hg : GL w) :
    Calls Tryd.prog 56 #[.string (bs s), HV h] w fun e w' => e = .returned (recV s (hb h)) ∧ Cl w [] [] w' := by
  refine calls_of_CW (L := []) Tryd.func56 rfl (Nat.le_of_ble_eq_true rfl) (Cl.refl _) ?_
  refine CW.seq_k fun K1 hK1 => ?_
  refine CW.region ?_
  refine OW.box rfl rfl rfl (by (conv => lhs; whnf) <;> rfl) (by rfl) (fun b3 => ?_)
  refine OW.alloc rfl rfl rfl tz25 (fun b4 => ?_)
  refine OW.q rfl rfl (yq_assign rfl (by (conv => lhs; whnf) <;> rfl)) ?_
  refine OW.nil ?_
  refine hK1 _ _ ?_
  refine CW.seq_k fun K2 hK2 => ?_
  refine CW.seq_k fun K3 hK3 => ?_
  refine CW.region ?_
  refine OW.q rfl rfl (yq_move rfl (by (conv => lhs; whnf) <;> rfl)) ?_
  refine OW.q rfl rfl (yq_len_bs rfl tt9 (by (conv => lhs; whnf) <;> rfl)) ?_
  refine OW.q rfl rfl (yq_neq rfl (by (conv => lhs; whnf) <;> rfl) (by (conv => lhs; whnf) <;> rfl)) ?_
  refine OW.nil ?_
  refine hK3 _ _ ?_
  refine CW.cond_dec (by (conv => lhs; whnf) <;> rfl) (fun hc0 => ?_) (fun hc0 => ?_)
  · refine CW.seq_k fun K4 hK4 => ?_
    refine CW.region ?_
    refine OW.q rfl rfl (yq_build (parts := []) (pv := []) (cs := hc zeroHash) rfl rfl (by kernel_rfl)) ?_
    refine OW.storeH rfl rfl rfl (by (conv => lhs; whnf) <;> rfl) (by (conv => lhs; whnf) <;> rfl) ti25 (by repeat' first | exact Put.head | apply Put.tail) (hc_length _) ?_
    refine OW.q rfl rfl (yq_assign rfl (by (conv => lhs; whnf) <;> rfl)) ?_
    refine OW.nil ?_
    refine hK4 _ _ ?_
    refine CW.ret ?_
    refine then_ret ?_
    -- ret (ret)
    rw [recV_bad (by omega)]
    exact fin2 (Or.inr rfl) rfl (rv_hash (by decide) (by (conv => lhs; whnf) <;> rfl) ti25 (by repeat' first | exact List.mem_cons_self .. | apply List.mem_cons_of_mem)) ⟨by decide, (by (conv => lhs; whnf) <;> rfl)⟩ (fun w hw => ⟨rfl, hw.sub (List.nil_sublist _)⟩)
  · have hl : s.length = 16384 := by omega
    refine CW.skip ?_
    refine hK2 _ _ ?_
    refine CW.seq_k fun K5 hK5 => ?_
    refine CW.region ?_
    refine OW.q rfl rfl (yq_loadH rfl (by (conv => lhs; whnf) <;> rfl) ti25 (by repeat' first | exact List.mem_cons_self .. | apply List.mem_cons_of_mem)) ?_
    refine OW.q rfl rfl (yq_call rfl rfl (.cons (by (conv => lhs; whnf) <;> rfl) .nil) en103 (fun w hw => hash_calls _ w)) ?_
    refine OW.q rfl rfl (yq_assign rfl (by (conv => lhs; whnf) <;> rfl)) ?_
    refine OW.nil ?_
    refine hK5 _ _ ?_
    refine CW.seq_k fun K6 hK6 => ?_
    refine CW.region ?_
    refine OW.make (k := 512) rfl rfl rfl (by (conv => lhs; whnf) <;> rfl) (by (conv => lhs; whnf) <;> rfl) ts22 ti25 tz25 (by decide) (by decide) (by decide) (made_hash 512) (fun bm => ?_)
    refine OW.q rfl rfl (yq_assign rfl (by (conv => lhs; whnf) <;> rfl)) ?_
    rw [← fillL_zero (recK s (hb h)) 512]
    refine OW.nil ?_
    refine hK6 _ _ ?_
    refine CW.seq_k fun K7 hK7 => ?_
    refine CW.seq_k fun K8 hK8 => ?_
    refine CW.region ?_
    refine OW.q rfl rfl (yq_move rfl (by (conv => lhs; whnf) <;> rfl)) ?_
    refine OW.nil ?_
    refine hK8 _ _ ?_
    refine CW.block ?_
    refine CW.loop (σ := Nat) (fun j ρ L => Has ρ [(0, .string (bs s)), (4, .pointer (some ⟨b4, 0, none⟩)), (6, .string (bs (hb h))), (7, .slice (some ⟨bm, 0, none⟩) 512 512), (19, .int .i64 (j : Int))] ∧ j ≤ 256 ∧ L = [.blk bm ((fillL (recK s (hb h)) 512 (2 * j)).flatMap hc) 25 (0, 0), .blk b4 (hc zeroHash) 25 (0, 0), .blk b3 (hc h) 25 (0, 0)]) (fun j => 256 - j) (0) ?_ ?_
    · exact ⟨Has.mk ⟨(by (conv => lhs; whnf) <;> rfl), (by (conv => lhs; whnf) <;> rfl), (by (conv => lhs; whnf) <;> rfl), (by (conv => lhs; whnf) <;> rfl), (by (conv => lhs; whnf) <;> rfl), trivial⟩, by omega, rfl⟩
    · rintro j _ _ ⟨⟨ρ', rfl⟩, hj, rfl⟩
      have hbl := bitB_lt (hb h) j
      refine CW.seq_k fun K9 hK9 => ?_
      refine CW.region ?_
      refine OW.q rfl rfl (yq_lss rfl (by (conv => lhs; whnf) <;> rfl) (by (conv => lhs; whnf) <;> rfl)) ?_
      refine OW.nil ?_
      refine hK9 _ _ ?_
      refine CW.seq_k fun K10 hK10 => ?_
      refine CW.cond_dec (by (conv => lhs; whnf) <;> rfl) (fun hc2 => ?_) (fun hc2 => ?_)
      · have hlt : j < 256 := by omega
        have hcl := cut32_length s j (by omega)
        refine CW.skip ?_
        refine hK10 _ _ ?_
        refine CW.seq_k fun K11 hK11 => ?_
        refine CW.block ?_
        refine CW.seq_k fun K12 hK12 => ?_
        refine CW.region ?_
        refine OW.q rfl rfl (yq_move rfl (by (conv => lhs; whnf) <;> rfl)) ?_
        refine OW.q rfl rfl (yq_assign rfl (by (conv => lhs; whnf) <;> rfl)) ?_
        refine OW.nil ?_
        refine hK12 _ _ ?_
        refine CW.seq_k fun K13 hK13 => ?_
        refine CW.region ?_
        refine OW.q rfl rfl (yq_move rfl (by (conv => lhs; whnf) <;> rfl)) ?_
        refine OW.q rfl rfl (yq_move rfl (by (conv => lhs; whnf) <;> rfl)) ?_
        refine OW.q rfl rfl (yq_call rfl rfl (.cons (by (conv => lhs; whnf) <;> rfl) ( .cons (by (conv => lhs; whnf) <;> rfl) .nil)) en121 (fun w hw => bit_calls (hb h) j w (by rw [hb_length]; omega) (by omega))) ?_
        refine OW.q rfl rfl (yq_assign rfl (by (conv => lhs; whnf) <;> rfl)) ?_
        refine OW.nil ?_
        refine hK13 _ _ ?_
        refine CW.seq_k fun K14 hK14 => ?_
        refine CW.draw mixed (by kernel_rfl) ?_
        refine QW.q rfl rfl (yq_move rfl (by (conv => lhs; whnf) <;> rfl)) ?_
        refine QW.q rfl rfl (yq_move rfl (by (conv => lhs; whnf) <;> rfl)) ?_
        refine QW.q rfl rfl (yq_mul rfl (by (conv => lhs; whnf) <;> rfl) (by (conv => lhs; whnf) <;> rfl) (by omega)) ?_
        refine QW.q rfl rfl (yq_move rfl (by (conv => lhs; whnf) <;> rfl)) ?_
        refine QW.q rfl rfl (yq_add rfl (by (conv => lhs; whnf) <;> rfl) (by (conv => lhs; whnf) <;> rfl) (by omega)) ?_
        refine QW.q rfl rfl (yq_mul rfl (by (conv => lhs; whnf) <;> rfl) (by (conv => lhs; whnf) <;> rfl) (by omega)) ?_
        refine QW.q rfl rfl ((yq_slice_bs (l := 32 * j) (h := 32 * j + 32) rfl (by (conv => lhs; whnf) <;> rfl) tt9 (by exact ⟨_, _, (by (conv => lhs; whnf) <;> rfl), by omega, by omega⟩) (by exact ⟨_, _, (by (conv => lhs; whnf) <;> rfl), by omega, by omega⟩) (by omega) (by omega)).to (v' := .string (bs (cut32 s j))) (by rw [cut32_eq, Nat.add_sub_cancel_left])) ?_
        refine QW.q rfl rfl (yq_move rfl (by (conv => lhs; whnf) <;> rfl)) ?_
        refine QW.q rfl rfl (yq_move rfl (by (conv => lhs; whnf) <;> rfl)) ?_
        refine QW.q rfl rfl (yq_add rfl (by (conv => lhs; whnf) <;> rfl) (by (conv => lhs; whnf) <;> rfl) (by omega)) ?_
        refine QW.q rfl rfl (yq_mul rfl (by (conv => lhs; whnf) <;> rfl) (by (conv => lhs; whnf) <;> rfl) (by omega)) ?_
        refine QW.q rfl rfl ((yq_slice_bs_from (l := 32 * (256 + j)) rfl (by (conv => lhs; whnf) <;> rfl) tt9 ⟨_, _, (by (conv => lhs; whnf) <;> rfl), by omega, by omega⟩ (by omega))) ?_
        refine QW.q rfl rfl (yq_assign rfl (by (conv => lhs; whnf) <;> rfl)) ?_
        refine QW.q rfl rfl (yq_assign rfl (by (conv => lhs; whnf) <;> rfl)) ?_
        refine QW.nil ?_
        refine hK14 _ _ ?_
        refine CW.seq_k fun K15 hK15 => ?_
        refine CW.region ?_
        refine OW.q rfl rfl (yq_move rfl (by (conv => lhs; whnf) <;> rfl)) ?_
        refine OW.q rfl rfl (yq_move rfl (by (conv => lhs; whnf) <;> rfl)) ?_
        refine OW.q rfl rfl (yq_mul rfl (by (conv => lhs; whnf) <;> rfl) (by (conv => lhs; whnf) <;> rfl) (by omega)) ?_
        refine OW.q rfl rfl (yq_move rfl (by (conv => lhs; whnf) <;> rfl)) ?_
        refine OW.q rfl rfl (yq_add rfl (by (conv => lhs; whnf) <;> rfl) (by (conv => lhs; whnf) <;> rfl) (by omega)) ?_
        refine OW.q rfl rfl (yq_move rfl (by (conv => lhs; whnf) <;> rfl)) ?_
        refine OW.q rfl rfl (yq_call rfl rfl (.cons (by (conv => lhs; whnf) <;> rfl) .nil) en128 (fun w hw => shown_calls (cut32 s j) w (by omega) (Cl_gl0 hw hg))) ?_
        refine OW.q rfl rfl (yq_index_slice rfl (by (conv => lhs; whnf) <;> rfl) (by (conv => lhs; whnf) <;> rfl) ts22 ti25 (by omega) (by omega)) ?_
        refine OW.store' rfl rfl rfl (by (conv => lhs; whnf) <;> rfl) (by (conv => lhs; whnf) <;> rfl) (vs := hc (shownL (cut32 s j))) (by rw [hc_length]; exact ti25) rfl (hc_one _) (by repeat' first | exact Put.head | apply Put.tail) (cs' := ((fillL (recK s (hb h)) 512 (2 * j)).set (2 * j + bitB (hb h) j) (shownL (cut32 s j))).flatMap hc) (by rw [Nat.zero_add, show (2 * (j : Int) + (bitB (hb h) j : Int)).toNat = 2 * j + bitB (hb h) j by omega]; exact spl_flat (by rw [fillL_length]; omega) _) (by rw [hc_length, flat_length, fillL_length]; omega) ?_
        refine OW.nil ?_
        refine hK15 _ _ ?_
        refine CW.region ?_
        refine OW.q rfl rfl (yq_move rfl (by (conv => lhs; whnf) <;> rfl)) ?_
        refine OW.q rfl rfl (yq_move rfl (by (conv => lhs; whnf) <;> rfl)) ?_
        refine OW.q rfl rfl (yq_mul rfl (by (conv => lhs; whnf) <;> rfl) (by (conv => lhs; whnf) <;> rfl) (by omega)) ?_
        refine OW.q rfl rfl (yq_add rfl (by (conv => lhs; whnf) <;> rfl) (by (conv => lhs; whnf) <;> rfl) (by omega)) ?_
        refine OW.q rfl rfl (yq_move rfl (by (conv => lhs; whnf) <;> rfl)) ?_
        refine OW.q rfl rfl (yq_sub rfl (by (conv => lhs; whnf) <;> rfl) (by (conv => lhs; whnf) <;> rfl) (by omega)) ?_
        refine OW.q rfl rfl (yq_move rfl (by (conv => lhs; whnf) <;> rfl)) ?_
        refine OW.q rfl rfl (yq_call rfl rfl (.cons (by (conv => lhs; whnf) <;> rfl) .nil) en111 (fun w hw => unhash_at (s := s) (256 + j) _ rfl (by omega) (unhash_calls _ w (by rw [List.length_drop]; omega)))) ?_
        refine OW.q rfl rfl (yq_move rfl (by (conv => lhs; whnf) <;> rfl)) ?_
        refine OW.q rfl rfl (yq_extract rfl (by (conv => lhs; whnf) <;> rfl) rfl) ?_
        refine OW.q rfl rfl (yq_extract rfl (by (conv => lhs; whnf) <;> rfl) rfl) ?_
        refine OW.q rfl rfl (yq_extract rfl (by (conv => lhs; whnf) <;> rfl) rfl) ?_
        refine OW.q rfl rfl (yq_index_slice rfl (by (conv => lhs; whnf) <;> rfl) (by (conv => lhs; whnf) <;> rfl) ts22 ti25 (by omega) (by omega)) ?_
        refine OW.store' rfl rfl rfl (by (conv => lhs; whnf) <;> rfl) (by (conv => lhs; whnf) <;> rfl) (vs := hc (toH (cut32 s (256 + j)))) (by rw [hc_length]; exact ti25) rfl (hc_one _) (by repeat' first | exact Put.head | apply Put.tail) (cs' := (((fillL (recK s (hb h)) 512 (2 * j)).set (2 * j + bitB (hb h) j) (shownL (cut32 s j))).set (2 * j + 1 - bitB (hb h) j) (toH (cut32 s (256 + j)))).flatMap hc) (by rw [Nat.zero_add, show (2 * (j : Int) + 1 - (bitB (hb h) j : Int)).toNat = 2 * j + 1 - bitB (hb h) j by omega]; exact spl_flat (by rw [List.length_set, fillL_length]; omega) _) (by rw [hc_length, flat_length, List.length_set, fillL_length]; omega) ?_
        refine OW.nil ?_
        refine hK11 _ _ ?_
        refine CW.region ?_
        refine OW.q rfl rfl (yq_add rfl (by (conv => lhs; whnf) <;> rfl) (by (conv => lhs; whnf) <;> rfl) (by omega)) ?_
        refine OW.q rfl rfl (yq_move rfl (by (conv => lhs; whnf) <;> rfl)) ?_
        refine OW.nil ?_
        refine ⟨j + 1, ⟨Has.mk ⟨(by (conv => lhs; whnf) <;> rfl), (by (conv => lhs; whnf) <;> rfl), (by (conv => lhs; whnf) <;> rfl), (by (conv => lhs; whnf) <;> rfl), (by (conv => lhs; whnf) <;> rfl), trivial⟩, by omega, ?_⟩, by omega⟩
        rw [← fill_two _ _ _ _ hbl (by omega), recK_hit, recK_miss]
      · have hj5 : j = 256 := by omega
        subst hj5
        refine CW.exit ?_
        refine then_exit ?_
        refine then_exit ?_
        refine blockQ_hit ?_
        refine hK7 _ _ ?_
        refine CW.seq_k fun K16 hK16 => ?_
        rw [show 2 * 256 = 512 from rfl, recL_fill]
        refine CW.region ?_
        refine OW.q rfl rfl (yq_move rfl (by (conv => lhs; whnf) <;> rfl)) ?_
        refine OW.q rfl rfl (yq_call rfl rfl (.cons (by (conv => lhs; whnf) <;> rfl) .nil) en60 (fun w hw => keyleaf_calls _ (recL s (hb h)) w (hsFull (recL_length _ _) (hw.own (.blk bm ((recL s (hb h)).flatMap hc) 25 (0, 0)) (by repeat' first | exact List.mem_cons_self .. | apply List.mem_cons_of_mem))) (Cl_gl0 hw hg))) ?_
        refine OW.storeH rfl rfl rfl (by (conv => lhs; whnf) <;> rfl) (by (conv => lhs; whnf) <;> rfl) ti25 (by repeat' first | exact Put.head | apply Put.tail) (hc_length _) ?_
        refine OW.q rfl rfl (yq_assign rfl (by (conv => lhs; whnf) <;> rfl)) ?_
        refine OW.nil ?_
        refine hK16 _ _ ?_
        refine CW.ret ?_
        -- ret (ret)
        rw [recV_ok hl]
        exact fin2 (Or.inr rfl) rfl (rv_hash (by decide) (by (conv => lhs; whnf) <;> rfl) ti25 (by repeat' first | exact List.mem_cons_self .. | apply List.mem_cons_of_mem)) ⟨by decide, (by (conv => lhs; whnf) <;> rfl)⟩ (fun w hw => ⟨rfl, hw.sub (List.nil_sublist _)⟩)

theorem shown_eq (b : Bytes) : sha ([3] ++ b) = shownL b := (shownL_eq b).symm

set_option maxRecDepth 100000 in
set_option maxHeartbeats 1000000 in
theorem refrecover_calls (s : Bytes) (h : Hash) (w : World) (hs : s.length ≤ 9223372036854775807) :
    Calls Tryd.prog 57 #[.string (bs s), HV h] w fun e w' => e = .returned (recV s (hb h)) ∧ Cl w [] [] w' := by
  refine calls_of_CW (L := []) Tryd.func57 rfl (Nat.le_of_ble_eq_true rfl) (Cl.refl _) ?_
  refine CW.seq_k fun K1 hK1 => ?_
  refine CW.region ?_
  refine OW.box rfl rfl rfl (by (conv => lhs; whnf) <;> rfl) (by rfl) (fun b3 => ?_)
  refine OW.alloc rfl rfl rfl tz25 (fun b4 => ?_)
  refine OW.q rfl rfl (yq_assign rfl (by (conv => lhs; whnf) <;> rfl)) ?_
  refine OW.nil ?_
  refine hK1 _ _ ?_
  refine CW.seq_k fun K2 hK2 => ?_
  refine CW.seq_k fun K3 hK3 => ?_
  refine CW.region ?_
  refine OW.q rfl rfl (yq_move rfl (by (conv => lhs; whnf) <;> rfl)) ?_
  refine OW.q rfl rfl (yq_len_bs rfl tt9 (by (conv => lhs; whnf) <;> rfl)) ?_
  refine OW.q rfl rfl (yq_neq rfl (by (conv => lhs; whnf) <;> rfl) (by (conv => lhs; whnf) <;> rfl)) ?_
  refine OW.nil ?_
  refine hK3 _ _ ?_
  refine CW.cond_dec (by (conv => lhs; whnf) <;> rfl) (fun hc0 => ?_) (fun hc0 => ?_)
  · refine CW.seq_k fun K4 hK4 => ?_
    refine CW.region ?_
    refine OW.q rfl rfl (yq_build (parts := []) (pv := []) (cs := hc zeroHash) rfl rfl (by kernel_rfl)) ?_
    refine OW.storeH rfl rfl rfl (by (conv => lhs; whnf) <;> rfl) (by (conv => lhs; whnf) <;> rfl) ti25 (by repeat' first | exact Put.head | apply Put.tail) (hc_length _) ?_
    refine OW.q rfl rfl (yq_assign rfl (by (conv => lhs; whnf) <;> rfl)) ?_
    refine OW.nil ?_
    refine hK4 _ _ ?_
    refine CW.ret ?_
    refine then_ret ?_
    -- ret (ret)
    rw [recV_bad (by omega)]
    exact fin2 (Or.inr rfl) rfl (rv_hash (by decide) (by (conv => lhs; whnf) <;> rfl) ti25 (by repeat' first | exact List.mem_cons_self .. | apply List.mem_cons_of_mem)) ⟨by decide, (by (conv => lhs; whnf) <;> rfl)⟩ (fun w hw => ⟨rfl, hw.sub (List.nil_sublist _)⟩)
  · have hl : s.length = 16384 := by omega
    refine CW.skip ?_
    refine hK2 _ _ ?_
    refine CW.seq_k fun K5 hK5 => ?_
    refine CW.region ?_
    refine OW.make (k := 512) rfl rfl rfl (by (conv => lhs; whnf) <;> rfl) (by (conv => lhs; whnf) <;> rfl) ts22 ti25 tz25 (by decide) (by decide) (by decide) (made_hash 512) (fun bm => ?_)
    refine OW.q rfl rfl (yq_assign rfl (by (conv => lhs; whnf) <;> rfl)) ?_
    rw [← fillL_zero (recK s (hb h)) 512]
    refine OW.nil ?_
    refine hK5 _ _ ?_
    refine CW.seq_k fun K6 hK6 => ?_
    refine CW.seq_k fun K7 hK7 => ?_
    refine CW.region ?_
    refine OW.q rfl rfl (yq_assign rfl (by (conv => lhs; whnf) <;> rfl)) ?_
    refine OW.nil ?_
    refine hK7 _ _ ?_
    refine CW.block ?_
    refine CW.loop (σ := Nat) (fun j ρ L => Has ρ [(0, .string (bs s)), (3, .pointer (some ⟨b3, 0, none⟩)), (4, .pointer (some ⟨b4, 0, none⟩)), (6, .slice (some ⟨bm, 0, none⟩) 512 512), (7, .int .i64 (j : Int))] ∧ j ≤ 256 ∧ L = [.blk bm ((fillL (recK s (hb h)) 512 (2 * j)).flatMap hc) 25 (0, 0), .blk b4 (hc zeroHash) 25 (0, 0), .blk b3 (hc h) 25 (0, 0)]) (fun j => 256 - j) (0) ?_ ?_
    · exact ⟨Has.mk ⟨(by (conv => lhs; whnf) <;> rfl), (by (conv => lhs; whnf) <;> rfl), (by (conv => lhs; whnf) <;> rfl), (by (conv => lhs; whnf) <;> rfl), (by (conv => lhs; whnf) <;> rfl), trivial⟩, by omega, rfl⟩
    · rintro j _ _ ⟨⟨ρ', rfl⟩, hj, rfl⟩
      have hbl := bitB_lt (hb h) j
      refine CW.seq_k fun K8 hK8 => ?_
      refine CW.seq_k fun K9 hK9 => ?_
      refine CW.region ?_
      refine OW.q rfl rfl (yq_move rfl (by (conv => lhs; whnf) <;> rfl)) ?_
      refine OW.q rfl rfl (yq_lss rfl (by (conv => lhs; whnf) <;> rfl) (by (conv => lhs; whnf) <;> rfl)) ?_
      refine OW.nil ?_
      refine hK9 _ _ ?_
      refine CW.cond_dec (by (conv => lhs; whnf) <;> rfl) (fun hc2 => ?_) (fun hc2 => ?_)
      · have hlt : j < 256 := by omega
        have hcl := cut32_length s j (by omega)
        refine CW.skip ?_
        refine hK8 _ _ ?_
        refine CW.seq_k fun K10 hK10 => ?_
        refine CW.block ?_
        refine CW.seq_k fun K11 hK11 => ?_
        refine CW.region ?_
        refine OW.q rfl rfl (yq_slice_arr_all (k := 31) rfl (by (conv => lhs; whnf) <;> rfl) ta25 ti5) ?_
        refine OW.q rfl rfl (yq_conv_bytes (l := hb h) rfl ts92 Tryd.underlying5 tt9 (by (conv => lhs; whnf) <;> rfl) (hb_length _) (blk_cells (cs := bc (hb h)) (by repeat' first | exact List.mem_cons_self .. | apply List.mem_cons_of_mem))) ?_
        refine OW.q rfl rfl (yq_move rfl (by (conv => lhs; whnf) <;> rfl)) ?_
        refine OW.q rfl rfl (yq_call rfl rfl (.cons (by (conv => lhs; whnf) <;> rfl) ( .cons (by (conv => lhs; whnf) <;> rfl) .nil)) en124 (fun w hw => refbit_calls (hb h) j w (by rw [hb_length]; omega) (by omega))) ?_
        refine OW.q rfl rfl (yq_assign rfl (by (conv => lhs; whnf) <;> rfl)) ?_
        refine OW.nil ?_
        refine hK11 _ _ ?_
        refine CW.seq_k fun K12 hK12 => ?_
        refine CW.region ?_
        refine OW.q rfl rfl (yq_move rfl (by (conv => lhs; whnf) <;> rfl)) ?_
        refine OW.q rfl rfl (yq_move rfl (by (conv => lhs; whnf) <;> rfl)) ?_
        refine OW.q rfl rfl (yq_mul rfl (by (conv => lhs; whnf) <;> rfl) (by (conv => lhs; whnf) <;> rfl) (by omega)) ?_
        refine OW.q rfl rfl (yq_move rfl (by (conv => lhs; whnf) <;> rfl)) ?_
        refine OW.q rfl rfl (yq_add rfl (by (conv => lhs; whnf) <;> rfl) (by (conv => lhs; whnf) <;> rfl) (by omega)) ?_
        refine OW.q rfl rfl (yq_move rfl (by (conv => lhs; whnf) <;> rfl)) ?_
        refine OW.q rfl rfl (yq_move rfl (by (conv => lhs; whnf) <;> rfl)) ?_
        refine OW.q rfl rfl (yq_mul rfl (by (conv => lhs; whnf) <;> rfl) (by (conv => lhs; whnf) <;> rfl) (by omega)) ?_
        refine OW.q rfl rfl (yq_move rfl (by (conv => lhs; whnf) <;> rfl)) ?_
        refine OW.q rfl rfl (yq_mul rfl (by (conv => lhs; whnf) <;> rfl) (by (conv => lhs; whnf) <;> rfl) (by omega)) ?_
        refine OW.q rfl rfl (yq_add rfl (by (conv => lhs; whnf) <;> rfl) (by (conv => lhs; whnf) <;> rfl) (by omega)) ?_
        refine OW.q rfl rfl ((yq_slice_bs (l := 32 * j) (h := 32 * j + 32) rfl (by (conv => lhs; whnf) <;> rfl) tt9 (by exact ⟨_, _, (by (conv => lhs; whnf) <;> rfl), by omega, by omega⟩) (by exact ⟨_, _, (by (conv => lhs; whnf) <;> rfl), by omega, by omega⟩) (by omega) (by omega)).to (v' := .string (bs (cut32 s j))) (by rw [cut32_eq, Nat.add_sub_cancel_left])) ?_
        refine OW.q rfl rfl (yq_add_bs (a := [3]) rfl (by (conv => lhs; whnf) <;> rfl) (by (conv => lhs; whnf) <;> rfl) (by simp only [List.length_cons, List.length_nil]; omega)) ?_
        refine OW.q rfl rfl (yq_call rfl rfl (.cons (by (conv => lhs; whnf) <;> rfl) .nil) en102 (fun w hw => (shown_eq (cut32 s j)) ▸ refsum_calls ([3] ++ cut32 s j) w (by simp; omega))) ?_
        refine OW.q rfl rfl (yq_index_slice rfl (by (conv => lhs; whnf) <;> rfl) (by (conv => lhs; whnf) <;> rfl) ts22 ti25 (by omega) (by omega)) ?_
        refine OW.store' rfl rfl rfl (by (conv => lhs; whnf) <;> rfl) (by (conv => lhs; whnf) <;> rfl) (vs := hc (shownL (cut32 s j))) (by rw [hc_length]; exact ti25) rfl (hc_one _) (by repeat' first | exact Put.head | apply Put.tail) (cs' := ((fillL (recK s (hb h)) 512 (2 * j)).set (2 * j + bitB (hb h) j) (shownL (cut32 s j))).flatMap hc) (by rw [Nat.zero_add, show (2 * (j : Int) + (bitB (hb h) j : Int)).toNat = 2 * j + bitB (hb h) j by omega]; exact spl_flat (by rw [fillL_length]; omega) _) (by rw [hc_length, flat_length, fillL_length]; omega) ?_
        refine OW.nil ?_
        refine hK12 _ _ ?_
        refine CW.seq_k fun K13 hK13 => ?_
        refine CW.region ?_
        refine OW.q rfl rfl (yq_move rfl (by (conv => lhs; whnf) <;> rfl)) ?_
        refine OW.q rfl rfl (yq_move rfl (by (conv => lhs; whnf) <;> rfl)) ?_
        refine OW.q rfl rfl (yq_mul rfl (by (conv => lhs; whnf) <;> rfl) (by (conv => lhs; whnf) <;> rfl) (by omega)) ?_
        refine OW.q rfl rfl (yq_add rfl (by (conv => lhs; whnf) <;> rfl) (by (conv => lhs; whnf) <;> rfl) (by omega)) ?_
        refine OW.q rfl rfl ((yq_slice_bs_from (l := 32 * (256 + j)) rfl (by (conv => lhs; whnf) <;> rfl) tt9 ⟨_, _, (by (conv => lhs; whnf) <;> rfl), by omega, by omega⟩ (by omega))) ?_
        refine OW.q rfl rfl (yq_call rfl rfl (.cons (by (conv => lhs; whnf) <;> rfl) .nil) en129 (fun w hw => unhash_at (s := s) (256 + j) _ rfl (by omega) (refunhash_calls _ w (by rw [List.length_drop]; omega)))) ?_
        refine OW.q rfl rfl (yq_move rfl (by (conv => lhs; whnf) <;> rfl)) ?_
        refine OW.q rfl rfl (yq_extract rfl (by (conv => lhs; whnf) <;> rfl) rfl) ?_
        refine OW.q rfl rfl (yq_extract rfl (by (conv => lhs; whnf) <;> rfl) rfl) ?_
        refine OW.q rfl rfl (yq_extract rfl (by (conv => lhs; whnf) <;> rfl) rfl) ?_
        refine OW.alloc rfl rfl rfl tz25 (fun b9 => ?_)
        refine OW.storeH rfl rfl rfl (by (conv => lhs; whnf) <;> rfl) (by (conv => lhs; whnf) <;> rfl) ti25 (by repeat' first | exact Put.head | apply Put.tail) (hc_length _) ?_
        refine OW.q rfl rfl (yq_assign rfl (by (conv => lhs; whnf) <;> rfl)) ?_
        refine OW.q rfl rfl (yq_assign rfl (by (conv => lhs; whnf) <;> rfl)) ?_
        refine OW.nil ?_
        refine hK13 _ _ ?_
        refine CW.region ?_
        refine OW.q rfl rfl (yq_move rfl (by (conv => lhs; whnf) <;> rfl)) ?_
        refine OW.q rfl rfl (yq_move rfl (by (conv => lhs; whnf) <;> rfl)) ?_
        refine OW.q rfl rfl (yq_mul rfl (by (conv => lhs; whnf) <;> rfl) (by (conv => lhs; whnf) <;> rfl) (by omega)) ?_
        refine OW.q rfl rfl (yq_add rfl (by (conv => lhs; whnf) <;> rfl) (by (conv => lhs; whnf) <;> rfl) (by omega)) ?_
        refine OW.q rfl rfl (yq_move rfl (by (conv => lhs; whnf) <;> rfl)) ?_
        refine OW.q rfl rfl (yq_sub rfl (by (conv => lhs; whnf) <;> rfl) (by (conv => lhs; whnf) <;> rfl) (by omega)) ?_
        refine OW.q rfl rfl (yq_loadH rfl (by (conv => lhs; whnf) <;> rfl) ti25 (by repeat' first | exact List.mem_cons_self .. | apply List.mem_cons_of_mem)) ?_
        refine OW.q rfl rfl (yq_index_slice rfl (by (conv => lhs; whnf) <;> rfl) (by (conv => lhs; whnf) <;> rfl) ts22 ti25 (by omega) (by omega)) ?_
        refine OW.store' rfl rfl rfl (by (conv => lhs; whnf) <;> rfl) (by (conv => lhs; whnf) <;> rfl) (vs := hc (toH (cut32 s (256 + j)))) (by rw [hc_length]; exact ti25) rfl (hc_one _) (by repeat' first | exact Put.head | apply Put.tail) (cs' := (((fillL (recK s (hb h)) 512 (2 * j)).set (2 * j + bitB (hb h) j) (shownL (cut32 s j))).set (2 * j + 1 - bitB (hb h) j) (toH (cut32 s (256 + j)))).flatMap hc) (by rw [Nat.zero_add, show (2 * (j : Int) + 1 - (bitB (hb h) j : Int)).toNat = 2 * j + 1 - bitB (hb h) j by omega]; exact spl_flat (by rw [List.length_set, fillL_length]; omega) _) (by rw [hc_length, flat_length, List.length_set, fillL_length]; omega) ?_
        refine OW.nil ?_
        refine hK10 _ _ ?_
        refine CW.drop (List.sublist_cons_self _ _) ?_
        refine CW.region ?_
        refine OW.q rfl rfl (yq_move rfl (by (conv => lhs; whnf) <;> rfl)) ?_
        refine OW.q rfl rfl (yq_add rfl (by (conv => lhs; whnf) <;> rfl) (by (conv => lhs; whnf) <;> rfl) (by omega)) ?_
        refine OW.q rfl rfl (yq_assign rfl (by (conv => lhs; whnf) <;> rfl)) ?_
        refine OW.nil ?_
        refine ⟨j + 1, ⟨Has.mk ⟨(by (conv => lhs; whnf) <;> rfl), (by (conv => lhs; whnf) <;> rfl), (by (conv => lhs; whnf) <;> rfl), (by (conv => lhs; whnf) <;> rfl), (by (conv => lhs; whnf) <;> rfl), trivial⟩, by omega, ?_⟩, by omega⟩
        rw [← fill_two _ _ _ _ hbl (by omega), recK_hit, recK_miss]
      · have hj5 : j = 256 := by omega
        subst hj5
        refine CW.exit ?_
        refine then_exit ?_
        refine then_exit ?_
        refine blockQ_hit ?_
        refine hK6 _ _ ?_
        refine CW.seq_k fun K14 hK14 => ?_
        rw [show 2 * 256 = 512 from rfl, recL_fill]
        refine CW.region ?_
        refine OW.q rfl rfl (yq_move rfl (by (conv => lhs; whnf) <;> rfl)) ?_
        refine OW.q rfl rfl (yq_call rfl rfl (.cons (by (conv => lhs; whnf) <;> rfl) .nil) en61 (fun w hw => refkeyleaf_calls _ (recL s (hb h)) w (hsFull (recL_length _ _) (hw.own (.blk bm ((recL s (hb h)).flatMap hc) 25 (0, 0)) (by repeat' first | exact List.mem_cons_self .. | apply List.mem_cons_of_mem))))) ?_
        refine OW.storeH rfl rfl rfl (by (conv => lhs; whnf) <;> rfl) (by (conv => lhs; whnf) <;> rfl) ti25 (by repeat' first | exact Put.head | apply Put.tail) (hc_length _) ?_
        refine OW.q rfl rfl (yq_assign rfl (by (conv => lhs; whnf) <;> rfl)) ?_
        refine OW.nil ?_
        refine hK14 _ _ ?_
        refine CW.ret ?_
        -- ret (ret)
        rw [recV_ok hl]
        exact fin2 (Or.inr rfl) rfl (rv_hash (by decide) (by (conv => lhs; whnf) <;> rfl) ti25 (by repeat' first | exact List.mem_cons_self .. | apply List.mem_cons_of_mem)) ⟨by decide, (by (conv => lhs; whnf) <;> rfl)⟩ (fun w hw => ⟨rfl, hw.sub (List.nil_sublist _)⟩)

end Go.Proofs.YtahdekllphehkaaDoor
