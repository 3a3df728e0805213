/- The filled text by the document; no statement of the seat is proved here. -/
import Derived.Test.YtahdekllphehkaaDoorA5
import Derived.Test.YtahdekllphehkaaDoorL9
set_option linter.unusedVariables false
set_option linter.unusedSimpArgs false
namespace Go.Proofs.YtahdekllphehkaaDoor
open Go.WL Go.Spec

theorem putB8_at (n : UInt64) (j : Nat) (h : j < 8) : (putB n 8).take (j + 1) = (putB n 8).take j ++ [(n >>> UInt64.ofNat (8 * (7 - j))).toUInt8] := by
  have : j = 0 ∨ j = 1 ∨ j = 2 ∨ j = 3 ∨ j = 4 ∨ j = 5 ∨ j = 6 ∨ j = 7 := by omega
  rcases this with rfl | rfl | rfl | rfl | rfl | rfl | rfl | rfl <;> simp [putB] <;> (apply UInt8.toNat_inj.1; simp [← Nat.shiftRight_add])

set_option maxRecDepth 100000 in
set_option maxHeartbeats 1000000 in
theorem pad_calls (l : Bytes) (w : World) (hs : l.length ≤ 4294967296) :
    Calls Tryd.prog 147 #[.string (bs l)] w fun e w' => ∃ v y, e = .returned v ∧ Sl 5 1 v (filledB l).length (bc (filledB l)) y ∧ Cl w [] [y] w' := by
  obtain ⟨Z, hZ⟩ : ∃ Z, Z = (64 + 55 - l.length % 64) % 64 := ⟨_, rfl⟩
  refine calls_of_CW (L := []) Tryd.func147 rfl (Nat.le_of_ble_eq_true rfl) (Cl.refl _) ?_
  refine CW.seq_k fun K1 hK1 => ?_
  refine CW.region ?_
  refine OW.q rfl rfl (yq_assign rfl (by (conv => lhs; whnf) <;> rfl)) ?_
  refine OW.nil ?_
  refine hK1 _ _ ?_
  refine CW.seq_k fun K2 hK2 => ?_
  refine CW.region ?_
  refine OW.q rfl rfl (yq_move rfl (by (conv => lhs; whnf) <;> rfl)) ?_
  refine OW.bytes_of rfl rfl rfl tt9 ts92 Tryd.underlying5 (by (conv => lhs; whnf) <;> rfl) (by simp only [maxLen]; omega) (fun v1 y1 hs1 => ?_)
  refine OW.slicelit (vs := [U8 128]) rfl rfl rfl rfl ts92 ti5 tz5 (by decide) rfl (by decide) (by simp [Value.cells]) (by decide) rfl (fun bl => ?_)
  refine OW.append' (news := [_]) rfl rfl rfl (by (conv => lhs; whnf) <;> rfl) hs1 (by (conv => lhs; whnf) <;> rfl) ts92 ti5 tz5 (.tail .head) (blk_cells (List.mem_cons_self ..)) rfl (by simp; rfl) rfl (by decide) (by simp only [maxLen]; omega) (by omega) (fun v' y' hs' => ?_)
  refine OW.drop ((List.sublist_cons_self _ _).cons_cons _) ?_
  refine OW.q rfl rfl (yq_assign rfl (by (conv => lhs; whnf) <;> rfl)) ?_
  refine OW.nil ?_
  refine hK2 _ _ ?_
  refine CW.seq_k fun K3 hK3 => ?_
  refine CW.block ?_
  refine CW.loop (σ := Nat) (fun z ρ L => ∃ v y, Has ρ [(0, .string (bs l)), (3, v)] ∧ Sl 5 1 v (l.length + 1 + z) (bc (l ++ [128] ++ List.replicate z 0)) y ∧ z ≤ Z ∧ L = [y]) (fun z => Z - z) (0) ?_ ?_
  · exact ⟨v', y', Has.mk ⟨(by (conv => lhs; whnf) <;> rfl), (by (conv => lhs; whnf) <;> rfl), trivial⟩, by simpa [bc, Nat.add_assoc] using hs', Nat.zero_le _, rfl⟩
  · rintro z _ _ ⟨v, y, ⟨ρ', rfl⟩, hsl, hz, rfl⟩
    obtain ⟨a, cap, rfl⟩ := hsl.len
    refine CW.seq_k fun K4 hK4 => ?_
    refine CW.seq_k fun K5 hK5 => ?_
    refine CW.region ?_
    refine OW.q rfl rfl (yq_move rfl (by (conv => lhs; whnf) <;> rfl)) ?_
    refine OW.q rfl rfl (yq_len_slice rfl ts92 (by (conv => lhs; whnf) <;> rfl)) ?_
    refine OW.q rfl rfl (yq_rem rfl (by (conv => lhs; whnf) <;> rfl) (by (conv => lhs; whnf) <;> rfl) (by omega)) ?_
    refine OW.q rfl rfl (yq_neq rfl (by (conv => lhs; whnf) <;> rfl) (by (conv => lhs; whnf) <;> rfl)) ?_
    refine OW.nil ?_
    refine hK5 _ _ ?_
    refine CW.cond_dec (by (conv => lhs; whnf) <;> rfl) (fun hc1 => ?_) (fun hc1 => ?_)
    · have hlt : z < Z := by omega
      refine CW.skip ?_
      refine hK4 _ _ ?_
      refine CW.block ?_
      refine CW.region ?_
      refine OW.q rfl rfl (yq_move rfl (by (conv => lhs; whnf) <;> rfl)) ?_
      refine OW.slicelit (vs := [U8 0]) rfl rfl rfl rfl ts92 ti5 tz5 (by decide) rfl (by decide) (by simp [Value.cells]) (by decide) rfl (fun bl => ?_)
      refine OW.append' (news := [_]) rfl rfl rfl (by (conv => lhs; whnf) <;> rfl) hsl (by (conv => lhs; whnf) <;> rfl) ts92 ti5 tz5 (.tail .head) (blk_cells (List.mem_cons_self ..)) rfl (by simp; rfl) rfl (by decide) (by simp only [maxLen]; omega) (by omega) (fun v' y' hs' => ?_)
      refine OW.drop ((List.sublist_cons_self _ _).cons_cons _) ?_
      refine OW.q rfl rfl (yq_assign rfl (by (conv => lhs; whnf) <;> rfl)) ?_
      refine OW.nil ?_
      exact ⟨z + 1, ⟨v', y', Has.mk ⟨(by (conv => lhs; whnf) <;> rfl), (by (conv => lhs; whnf) <;> rfl), trivial⟩, by rw [List.replicate_succ', ← List.append_assoc]; simpa [bc, Nat.add_assoc] using hs', by omega, rfl⟩, by omega⟩
    · have hzZ : z = Z := by omega
      clear hz hc1
      subst hzZ
      refine CW.exit ?_
      refine then_exit ?_
      refine then_exit ?_
      refine blockQ_hit ?_
      refine hK3 _ _ ?_
      refine CW.seq_k fun K6 hK6 => ?_
      refine CW.region ?_
      refine OW.q rfl rfl (yq_move rfl (by (conv => lhs; whnf) <;> rfl)) ?_
      refine OW.q rfl rfl (yq_len_bs rfl tt9 (by (conv => lhs; whnf) <;> rfl)) ?_
      refine OW.q rfl rfl (yq_conv_i64_u64 rfl Tryd.underlying3 Tryd.underlying147 (by (conv => lhs; whnf) <;> rfl) (by omega)) ?_
      refine OW.q rfl rfl (yq_mul_u64 (b := 8) rfl (by (conv => lhs; whnf) <;> rfl) (by (conv => lhs; whnf) <;> rfl)) ?_
      refine OW.q rfl rfl (yq_assign rfl (by (conv => lhs; whnf) <;> rfl)) ?_
      refine OW.nil ?_
      refine hK6 _ _ ?_
      refine CW.seq_k fun K7 hK7 => ?_
      refine CW.seq_k fun K8 hK8 => ?_
      refine CW.region ?_
      refine OW.q rfl rfl (yq_assign rfl (by (conv => lhs; whnf) <;> rfl)) ?_
      refine OW.nil ?_
      refine hK8 _ _ ?_
      refine CW.block ?_
      refine CW.loop (σ := Nat) (fun j ρ L => ∃ v y, Has ρ [(3, v), (4, U64 (UInt64.ofNat l.length * 8)), (5, .int .i64 (7 - (j : Int)))] ∧ Sl 5 1 v (l.length + 1 + z + j) (bc (l ++ [128] ++ List.replicate z 0 ++ (putB (UInt64.ofNat l.length * 8) 8).take j)) y ∧ j ≤ 8 ∧ L = [y]) (fun j => 8 - j) (0) ?_ ?_
      · exact ⟨_, y, Has.mk ⟨(by (conv => lhs; whnf) <;> rfl), (by (conv => lhs; whnf) <;> rfl), (by (conv => lhs; whnf) <;> rfl), trivial⟩, by simpa using hsl, Nat.zero_le _, rfl⟩
      · rintro j _ _ ⟨v, y, ⟨ρ', rfl⟩, hsl, hj, rfl⟩
        refine CW.seq_k fun K9 hK9 => ?_
        refine CW.seq_k fun K10 hK10 => ?_
        refine CW.region ?_
        refine OW.q rfl rfl (yq_move rfl (by (conv => lhs; whnf) <;> rfl)) ?_
        refine OW.q rfl rfl (yq_geq rfl (by (conv => lhs; whnf) <;> rfl) (by (conv => lhs; whnf) <;> rfl)) ?_
        refine OW.nil ?_
        refine hK10 _ _ ?_
        refine CW.cond_dec (by (conv => lhs; whnf) <;> rfl) (fun hc4 => ?_) (fun hc4 => ?_)
        · have hlt : j < 8 := by omega
          refine CW.skip ?_
          refine hK9 _ _ ?_
          refine CW.seq_k fun K11 hK11 => ?_
          refine CW.block ?_
          refine CW.region ?_
          refine OW.q rfl rfl (yq_move rfl (by (conv => lhs; whnf) <;> rfl)) ?_
          refine OW.q rfl rfl (yq_move rfl (by (conv => lhs; whnf) <;> rfl)) ?_
          refine OW.q rfl rfl (yq_move rfl (by (conv => lhs; whnf) <;> rfl)) ?_
          refine OW.q rfl rfl (yq_mul_e (r := ((8 * (7 - j) : Nat) : Int)) rfl (by (conv => lhs; whnf) <;> rfl) (by (conv => lhs; whnf) <;> rfl) (by rw [wrap64_in (by omega)]; omega)) ?_
          refine OW.q rfl rfl (yq_shr_u64 rfl (by (conv => lhs; whnf) <;> rfl) (by (conv => lhs; whnf) <;> rfl) (by omega)) ?_
          refine OW.q rfl rfl (yq_conv_u64_u8 rfl Tryd.underlying147 Tryd.underlying5 (by (conv => lhs; whnf) <;> rfl)) ?_
          refine OW.slicelit (vs := [U8 ((UInt64.ofNat l.length * 8) >>> UInt64.ofNat (8 * (7 - j))).toUInt8]) rfl rfl rfl rfl ts92 ti5 tz5 (by decide) rfl (by decide) (by simp [Value.cells]) (by decide) rfl (fun bl => ?_)
          refine OW.append' (news := [_]) rfl rfl rfl (by (conv => lhs; whnf) <;> rfl) hsl (by (conv => lhs; whnf) <;> rfl) ts92 ti5 tz5 (.tail .head) (blk_cells (List.mem_cons_self ..)) rfl (by simp; rfl) rfl (by decide) (by simp only [maxLen]; omega) (by omega) (fun v' y' hs' => ?_)
          refine OW.drop ((List.sublist_cons_self _ _).cons_cons _) ?_
          refine OW.q rfl rfl (yq_assign rfl (by (conv => lhs; whnf) <;> rfl)) ?_
          refine OW.nil ?_
          refine hK11 _ _ ?_
          refine CW.region ?_
          refine OW.q rfl rfl (yq_move rfl (by (conv => lhs; whnf) <;> rfl)) ?_
          refine OW.q rfl rfl (yq_sub rfl (by (conv => lhs; whnf) <;> rfl) (by (conv => lhs; whnf) <;> rfl) (by omega)) ?_
          refine OW.q rfl rfl (yq_assign rfl (by (conv => lhs; whnf) <;> rfl)) ?_
          refine OW.nil ?_
          exact ⟨j + 1, ⟨v', y', Has.mk ⟨(by (conv => lhs; whnf) <;> rfl), (by (conv => lhs; whnf) <;> rfl), by (conv => lhs; whnf); congr 1; omega, trivial⟩, by rw [putB8_at _ _ hlt, ← List.append_assoc]; simpa [bc, Nat.add_assoc] using hs', by omega, rfl⟩, by omega⟩
        · have hj8 : j = 8 := by omega
          clear hj hc4
          subst hj8
          refine CW.exit ?_
          refine then_exit ?_
          refine then_exit ?_
          refine blockQ_hit ?_
          refine hK7 _ _ ?_
          refine CW.seq_k fun K12 hK12 => ?_
          refine CW.region ?_
          refine OW.q rfl rfl (yq_move rfl (by (conv => lhs; whnf) <;> rfl)) ?_
          refine OW.q rfl rfl (yq_assign rfl (by (conv => lhs; whnf) <;> rfl)) ?_
          refine OW.nil ?_
          refine hK12 _ _ ?_
          refine CW.ret ?_
          -- ret (ret)
          have hfl : filledB l = l ++ [128] ++ List.replicate z 0 ++ (putB (UInt64.ofNat l.length * 8) 8).take 8 := by rw [List.take_of_length_le (by rw [putB_length]; exact Nat.le_refl _), hZ]; rfl
          have hln : (filledB l).length = l.length + 1 + z + 8 := by rw [hfl]; simp [putB_length]; omega
          rw [hln, hfl]
          exact fin1 (Or.inr rfl) rfl ⟨by decide, (by (conv => lhs; whnf) <;> rfl)⟩ (fun w hw => ⟨v, y, rfl, hsl, hw⟩)

end Go.Proofs.YtahdekllphehkaaDoor
