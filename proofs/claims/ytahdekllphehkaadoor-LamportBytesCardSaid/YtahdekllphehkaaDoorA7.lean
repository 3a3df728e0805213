/- The hash of bytes by the document; no statement of the seat is proved here. -/
import Derived.Test.YtahdekllphehkaaDoorA6
set_option linter.unusedVariables false
set_option linter.unusedSimpArgs false
namespace Go.Proofs.YtahdekllphehkaaDoor
open Go.WL Go.Spec

theorem bc_at (l : Bytes) (j : Nat) (h : j < l.length) : (bc l)[j]? = some (U8 (l.getD j 0)) := by simp [bc, List.getD_eq_getElem?_getD, h]
/-- The schedule's array behind so many words, over what was there. -/
def schedB (blk : Bytes) (ws : List UInt32) (k : Nat) : List UInt32 := sched blk k ++ ws.drop k
theorem schedB_length (blk : Bytes) (ws : List UInt32) (k : Nat) (h : k ≤ 64) (hw : ws.length = 64) : (schedB blk ws k).length = 64 := by simp [schedB, sched_length]; omega
theorem schedB_at (blk : Bytes) (ws : List UInt32) (k j : Nat) (h : j < k) (hk : k ≤ 64) : ((schedB blk ws k).map U32)[j]? = some (U32 ((sched blk k).getD j 0)) := by
  have hl := sched_length blk k
  rw [List.getElem?_map, schedB, List.getElem?_append_left (by omega)]
  simp [List.getD_eq_getElem?_getD, hl, h]
theorem schedB_spl (blk : Bytes) (ws : List UInt32) (k : Nat) (h : k < 64) (hw : ws.length = 64) (x : UInt32) (hx : x = nextW blk (sched blk k)) : spl ((schedB blk ws k).map U32) k [U32 x] = (schedB blk ws (k + 1)).map U32 := by
  have hl := sched_length blk k
  subst hx
  unfold spl schedB
  rw [List.map_append, List.take_left' (by simp [hl]), sched_succ]
  show _ ++ List.drop (k + 1) _ = _
  have : (List.map U32 (sched blk k) ++ List.map U32 (ws.drop k)).drop (k + 1) = List.map U32 (ws.drop (k + 1)) := by
    rw [← List.drop_drop, List.drop_left' (by simp [hl]), ← List.map_drop, List.drop_drop]
  rw [this]
  simp
attribute [irreducible] schedB
theorem get4 (F : Bytes) (j : Nat) (h : j + 4 ≤ F.length) : (getB ((F.drop j).take 4)).toUInt32 = (F.getD j 0).toUInt32 <<< UInt32.ofNat 24 + (F.getD (j + 1) 0).toUInt32 <<< UInt32.ofNat 16 + (F.getD (j + 2) 0).toUInt32 <<< UInt32.ofNat 8 + (F.getD (j + 3) 0).toUInt32 := by
  have e : (F.drop j).take 4 = [F.getD j 0, F.getD (j + 1) 0, F.getD (j + 2) 0, F.getD (j + 3) 0] := by
    apply List.ext_getElem?
    intro i
    rcases Nat.lt_or_ge i 4 with hi | hi
    · rw [List.getElem?_take_of_lt hi, List.getElem?_drop]
      have : i = 0 ∨ i = 1 ∨ i = 2 ∨ i = 3 := by omega
      rcases this with rfl | rfl | rfl | rfl <;> simp [List.getD_eq_getElem?_getD] <;> rw [List.getElem?_eq_getElem (by omega)] <;> rfl
    · rw [List.getElem?_eq_none (by simp; omega), List.getElem?_eq_none (by simp; omega)]
  rw [e]
  generalize F.getD j 0 = a
  generalize F.getD (j + 1) 0 = b
  generalize F.getD (j + 2) 0 = c
  generalize F.getD (j + 3) 0 = d
  apply UInt32.toNat_inj.1
  have ha := a.toNat_lt
  have hb := b.toNat_lt
  have hc := c.toNat_lt
  have hd := d.toNat_lt
  simp [getB, Nat.shiftLeft_eq]
  omega
theorem put4 (n : UInt32) : putB n.toUInt64 4 = [(n >>> UInt32.ofNat 24).toUInt8, (n >>> UInt32.ofNat 16).toUInt8, (n >>> UInt32.ofNat 8).toUInt8, (n >>> UInt32.ofNat 0).toUInt8] := by
  simp only [putB, List.nil_append, List.cons_append, List.cons.injEq, and_true]
  refine ⟨?_, ?_, ?_, ?_⟩ <;> (apply UInt8.toNat_inj.1; simp [← Nat.shiftRight_add])
theorem outB_map (v : S8) : outB v = (List.range 32).map fun i => (v.l.getD (i / 4) 0 >>> UInt32.ofNat (24 - 8 * (i % 4))).toUInt8 := by
  unfold outB S8.l
  simp only [List.flatMap_cons, List.flatMap_nil, put4]
  rfl
def outI (B : Bytes) (i : Nat) : List Value := bc (B.take i) ++ List.replicate (32 - i) (.int .u8 0)
theorem outI_length (B : Bytes) (hB : B.length = 32) (i : Nat) (h : i ≤ 32) : (outI B i).length = 32 := by simp [outI, hB]; omega
theorem outI_full (B : Bytes) (hB : B.length = 32) : outI B 32 = bc B := by simp [outI, List.take_of_length_le (Nat.le_of_eq hB)]
theorem outI_spl (B : Bytes) (hB : B.length = 32) (i : Nat) (h : i < 32) (x : UInt8) (hx : B.getD i 0 = x) : spl (outI B i) i [U8 x] = outI B (i + 1) := by
  subst hx
  obtain ⟨m, hm⟩ : ∃ m, 32 - i = m + 1 := ⟨32 - i - 1, by omega⟩
  have hm' : 32 - (i + 1) = m := by omega
  have hl : (bc (B.take i)).length = i := by simp [hB]; omega
  unfold spl outI
  rw [hm, hm', List.take_left' hl, List.replicate_succ]
  show _ ++ List.drop (i + 1) _ = _
  have e : (bc (B.take i) ++ Value.int .u8 0 :: List.replicate m (Value.int .u8 0)).drop (i + 1) = List.replicate m (Value.int .u8 0) := by
    rw [List.append_cons]
    exact List.drop_left' (by rw [List.length_append, hl]; rfl)
  have eg : B.getD i 0 = B[i]'(by omega) := by simp [List.getD_eq_getElem?_getD, show i < B.length by omega]
  rw [e, List.take_succ_eq_append_getElem (show i < B.length by omega), eg]
  simp only [bc, List.map_append, List.map_cons, List.map_nil]
theorem hc_sha (l : Bytes) : hc (sha l) = bc (outB (blocks8 firstS ((filledB l).length / 64) (filledB l))) := by
  unfold sha
  rw [hc_hashOf]
theorem mix8_eq (v : S8) (b : Bytes) : mix8 v b = add8 (rounds8 (sched b 64) v 64) v := rfl
theorem add8_comm (v u : S8) : (add8 u v).l = [v.a + u.a, v.b + u.b, v.c + u.c, v.d + u.d, v.e + u.e, v.f + u.f, v.g + u.g, v.h + u.h] := by
  simp [add8, S8.l, UInt32.add_comm]
attribute [irreducible] outI
theorem add_rc (a s b t : UInt32) : a + s + b + t = a + b + s + t := by rw [UInt32.add_assoc a, UInt32.add_comm s b, ← UInt32.add_assoc]
theorem h1off (i : Nat) : 0 + (i : Int).toNat * 1 = i := by omega
theorem filled_pos (l : Bytes) : 0 < (filledB l).length := by simp [filledB, putB_length]; omega

theorem schedB_zero (blk : Bytes) (ws : List UInt32) : schedB blk ws 0 = ws := by unfold schedB; rw [sched_zero]; rfl
theorem outI_zero (B : Bytes) : outI B 0 = List.replicate 32 (.int .u8 0) := by unfold outI; rfl
theorem outB_at (v : S8) (i : Nat) (h : i < 32) : (outB v).getD i 0 = (v.l.getD (i / 4) 0 >>> UInt32.ofNat (24 - 8 * (i % 4))).toUInt8 := by
  rw [outB_map, List.getD_eq_getElem?_getD, List.getElem?_map, List.getElem?_range h]; rfl
theorem yq_conv_u32_u8 {P : Program} {n : Nat} {w0 : World} {E : List Nat} {o : Oper} {ρ : Nat → Value} {L : List Ent} {s t : TypeId} {d : TypeDesc} {x : Operand} {a : UInt32} (h : o.op = .convert s t x) (hs : P.underlying s = some d) (ht : P.underlying t = some (.int .u8)) (hx : ev n ρ x = U32 a) : Yq P n w0 E o ρ L (U8 a.toUInt8) :=
  yq_conv_int h hs ht hx (by rw [wrap_u8]; simp)

set_option maxRecDepth 100000 in
set_option maxHeartbeats 1000000 in
theorem refsum_calls (l : Bytes) (w : World) (hs : l.length ≤ 4294967296) :
    Calls Tryd.prog 102 #[.string (bs l)] w fun e w' => e = .returned (HV (sha l)) ∧ Cl w [] [] w' := by
  obtain ⟨F, hF0⟩ : ∃ F, F = filledB l := ⟨_, rfl⟩
  obtain ⟨N, hN⟩ : ∃ N, N = F.length / 64 := ⟨_, rfl⟩
  have hF : F.length = 64 * N := by rw [hN, hF0]; exact filledB_length l
  have hFp : 0 < F.length := by rw [hF0]; exact filled_pos l
  have hFs : F.length ≤ 4294967500 := by rw [hF0]; simp [filledB, putB_length]; omega
  obtain ⟨B, hB0⟩ : ∃ B, B = outB (blocks8 firstS N F) := ⟨_, rfl⟩
  have hB : B.length = 32 := by rw [hB0]; exact outB_length _
  have hsha : hc (sha l) = bc B := by rw [hc_sha, hB0, hN, hF0]
  have hpad : ∀ w, Calls Tryd.prog 147 #[.string (bs l)] w fun e w' => ∃ v L1, e = .returned v ∧ Cl w [] L1 w' ∧ ∃ y, L1 = [y] ∧ Sl 5 1 v F.length (bc F) y := by
    intro w
    refine (pad_calls l w hs).mono fun e w' ⟨v, y, h1, h2, h3⟩ => ⟨v, [y], h1, h3, y, rfl, ?_⟩
    rw [hF0]
    exact h2
  refine calls_of_CW (L := []) Tryd.func102 rfl (Nat.le_of_ble_eq_true rfl) (Cl.refl _) ?_
  refine CW.seq_k fun K1 hK1 => ?_
  refine CW.region ?_
  refine OW.alloc rfl rfl rfl tz25 (fun b2 => ?_)
  refine OW.nil ?_
  refine hK1 _ _ ?_
  refine CW.seq_k fun K2 hK2 => ?_
  refine CW.region ?_
  refine OW.q rfl rfl (yq_build (cs := roundKs.map U32) rfl rfl (by kernel_rfl)) ?_
  refine OW.alloc rfl rfl rfl tz190 (fun b3 => ?_)
  refine OW.store' rfl rfl rfl (by (conv => lhs; whnf) <;> rfl) (by (conv => lhs; whnf) <;> rfl) (vs := roundKs.map U32) ti190 rfl (U32_one _) .head (spl_all _ _ rfl) (by decide) ?_
  refine OW.nil ?_
  refine hK2 _ _ ?_
  refine CW.seq_k fun K3 hK3 => ?_
  refine CW.region ?_
  refine OW.q rfl rfl (yq_build (cs := firstS.l.map U32) rfl rfl (by kernel_rfl)) ?_
  refine OW.alloc rfl rfl rfl tz188 (fun b4 => ?_)
  refine OW.store' rfl rfl rfl (by (conv => lhs; whnf) <;> rfl) (by (conv => lhs; whnf) <;> rfl) (vs := firstS.l.map U32) ti188 rfl (U32_one _) .head (spl_all _ _ rfl) (by decide) ?_
  refine OW.nil ?_
  refine hK3 _ _ ?_
  refine CW.seq_k fun K4 hK4 => ?_
  refine CW.region ?_
  refine OW.q rfl rfl (yq_move rfl (by (conv => lhs; whnf) <;> rfl)) ?_
  refine OW.calln rfl rfl rfl (by (conv => lhs; whnf) <;> rfl) (.cons (by (conv => lhs; whnf) <;> rfl) .nil) en147 (fun w hw => hpad w) ?_
  rintro pv _ ⟨y, rfl, hsl⟩
  refine OW.know (∃ pb cap, pv = .slice (some ⟨pb, 0, none⟩) F.length cap) (fun w hw => hsl.isSlice hFp (hw.own y (List.mem_cons_self ..))) ?_
  rintro ⟨pb, cap, rfl⟩
  have hpb : ∀ w, y.ok w → ∀ j u, (bc F)[j]? = some u → w.cell? ⟨pb, j, none⟩ = some u := fun w hw => hsl.at hw
  refine OW.q rfl rfl (yq_assign rfl (by (conv => lhs; whnf) <;> rfl)) ?_
  refine OW.nil ?_
  refine hK4 _ _ ?_
  refine CW.seq_k fun K5 hK5 => ?_
  refine CW.region ?_
  refine OW.alloc rfl rfl rfl tz190 (fun b6 => ?_)
  refine OW.nil ?_
  refine hK5 _ _ ?_
  refine CW.seq_k fun K6 hK6 => ?_
  refine CW.seq_k fun K7 hK7 => ?_
  refine CW.region ?_
  refine OW.q rfl rfl (yq_assign rfl (by (conv => lhs; whnf) <;> rfl)) ?_
  refine OW.nil ?_
  refine hK7 _ _ ?_
  refine CW.block ?_
  refine CW.loop (σ := Nat × S8 × List UInt32) (fun p ρ L => Has ρ [(2, .pointer (some ⟨b2, 0, none⟩)), (3, .pointer (some ⟨b3, 0, none⟩)), (4, .pointer (some ⟨b4, 0, none⟩)), (5, .slice (some ⟨pb, 0, none⟩) F.length cap), (6, .pointer (some ⟨b6, 0, none⟩)), (7, .int .i64 (64 * (p.1 : Int)))] ∧ p.1 ≤ N ∧ p.2.2.length = 64 ∧ blocks8 p.2.1 (N - p.1) (F.drop (64 * p.1)) = blocks8 firstS N F ∧ L = [.blk b6 (p.2.2.map U32) 190 (0, 0), y, .blk b4 (p.2.1.l.map U32) 188 (0, 0), .blk b3 (roundKs.map U32) 190 (0, 0), .blk b2 (hc zeroHash) 25 (0, 0)]) (fun p => N - p.1) ((0, firstS, List.replicate 64 0)) ?_ ?_
  · exact ⟨Has.mk ⟨(by (conv => lhs; whnf) <;> rfl), (by (conv => lhs; whnf) <;> rfl), (by (conv => lhs; whnf) <;> rfl), (by (conv => lhs; whnf) <;> rfl), (by (conv => lhs; whnf) <;> rfl), (by (conv => lhs; whnf) <;> rfl), trivial⟩, Nat.zero_le _, rfl, rfl, by rw [hc_zero, List.map_replicate]; rfl⟩
  · rintro ⟨k, v, ws0⟩ _ _ ⟨⟨ρ', rfl⟩, hk, hws0, hb, rfl⟩
    refine CW.seq_k fun K8 hK8 => ?_
    refine CW.seq_k fun K9 hK9 => ?_
    refine CW.region ?_
    refine OW.q rfl rfl (yq_move rfl (by (conv => lhs; whnf) <;> rfl)) ?_
    refine OW.q rfl rfl (yq_move rfl (by (conv => lhs; whnf) <;> rfl)) ?_
    refine OW.q rfl rfl (yq_len_slice rfl ts92 (by (conv => lhs; whnf) <;> rfl)) ?_
    refine OW.q rfl rfl (yq_lss rfl (by (conv => lhs; whnf) <;> rfl) (by (conv => lhs; whnf) <;> rfl)) ?_
    refine OW.nil ?_
    refine hK9 _ _ ?_
    refine CW.cond_dec (by (conv => lhs; whnf) <;> rfl) (fun hc1 => ?_) (fun hc1 => ?_)
    · have hlt : k < N := by omega
      have h64 := take64 hF hlt
      obtain ⟨X, hX⟩ : ∃ X, X = (F.drop (64 * k)).take 64 := ⟨_, rfl⟩
      obtain ⟨v2, hv2⟩ : ∃ v2, v2 = mix8 v X := ⟨_, rfl⟩
      obtain ⟨ws, hwse⟩ : ∃ ws, ws = ws0 := ⟨_, rfl⟩
      have hws : ws.length = 64 := by rw [hwse]; exact hws0
      refine CW.skip ?_
      refine hK8 _ _ ?_
      refine CW.seq_k fun K10 hK10 => ?_
      refine CW.block ?_
      refine CW.seq_k fun K11 hK11 => ?_
      refine CW.seq_k fun K12 hK12 => ?_
      refine CW.region ?_
      refine OW.q rfl rfl (yq_assign rfl (by (conv => lhs; whnf) <;> rfl)) ?_
      refine OW.nil ?_
      refine hK12 _ _ ?_
      refine CW.block ?_
      refine CW.loop (σ := Nat) (fun i ρ L => Has ρ [(2, .pointer (some ⟨b2, 0, none⟩)), (3, .pointer (some ⟨b3, 0, none⟩)), (4, .pointer (some ⟨b4, 0, none⟩)), (5, .slice (some ⟨pb, 0, none⟩) F.length cap), (6, .pointer (some ⟨b6, 0, none⟩)), (7, .int .i64 (64 * (k : Int))), (8, .int .i64 (i : Int))] ∧ i ≤ 16 ∧ L = [.blk b6 ((schedB X ws i).map U32) 190 (0, 0), y, .blk b4 (v.l.map U32) 188 (0, 0), .blk b3 (roundKs.map U32) 190 (0, 0), .blk b2 (hc zeroHash) 25 (0, 0)]) (fun i => 16 - i) (0) ?_ ?_
      · exact ⟨Has.mk ⟨(by (conv => lhs; whnf) <;> rfl), (by (conv => lhs; whnf) <;> rfl), (by (conv => lhs; whnf) <;> rfl), (by (conv => lhs; whnf) <;> rfl), (by (conv => lhs; whnf) <;> rfl), (by (conv => lhs; whnf) <;> rfl), (by (conv => lhs; whnf) <;> rfl), trivial⟩, Nat.zero_le _, by rw [schedB_zero, hwse]⟩
      · rintro i _ _ ⟨⟨ρ', rfl⟩, hi, rfl⟩
        have eI := h1off i
        refine CW.seq_k fun K13 hK13 => ?_
        refine CW.seq_k fun K14 hK14 => ?_
        refine CW.region ?_
        refine OW.q rfl rfl (yq_move rfl (by (conv => lhs; whnf) <;> rfl)) ?_
        refine OW.q rfl rfl (yq_lss rfl (by (conv => lhs; whnf) <;> rfl) (by (conv => lhs; whnf) <;> rfl)) ?_
        refine OW.nil ?_
        refine hK14 _ _ ?_
        refine CW.cond_dec (by (conv => lhs; whnf) <;> rfl) (fun hc4 => ?_) (fun hc4 => ?_)
        · refine CW.skip ?_
          refine hK13 _ _ ?_
          refine CW.seq_k fun K15 hK15 => ?_
          refine CW.block ?_
          refine CW.seq_k fun K16 hK16 => ?_
          refine CW.region ?_
          refine OW.q rfl rfl (yq_move rfl (by (conv => lhs; whnf) <;> rfl)) ?_
          refine OW.q rfl rfl (yq_move rfl (by (conv => lhs; whnf) <;> rfl)) ?_
          refine OW.q rfl rfl (yq_mul rfl (by (conv => lhs; whnf) <;> rfl) (by (conv => lhs; whnf) <;> rfl) (by omega)) ?_
          refine OW.q rfl rfl (yq_add rfl (by (conv => lhs; whnf) <;> rfl) (by (conv => lhs; whnf) <;> rfl) (by omega)) ?_
          refine OW.q rfl rfl (yq_assign rfl (by (conv => lhs; whnf) <;> rfl)) ?_
          refine OW.nil ?_
          refine hK16 _ _ ?_
          refine CW.drawT 31 mixed (by kernel_rfl) ?_
          refine QW.q rfl rfl (yq_move rfl (by (conv => lhs; whnf) <;> rfl)) ?_
          refine QW.q rfl rfl (yq_move rfl (by (conv => lhs; whnf) <;> rfl)) ?_
          refine QW.q rfl rfl (yq_move rfl (by (conv => lhs; whnf) <;> rfl)) ?_
          refine QW.q rfl rfl (yq_index_slice rfl (by (conv => lhs; whnf) <;> rfl) (by (conv => lhs; whnf) <;> rfl) ts92 ti5 (by omega) (by omega)) ?_
          refine QW.q rfl rfl (yq_load_c (v := U8 (F.getD (64 * k + 4 * i + 0) 0)) rfl (by (conv => lhs; whnf) <;> rfl) (fun w hw => run_load_one ti5 (hpb w (hw.own y (List.mem_cons_of_mem _ (List.mem_cons_self ..))) _ _ (by rw [show 0 + ((64 * (k : Int) + 4 * (i : Int))).toNat * 1 = 64 * k + 4 * i + 0 by omega]; exact bc_at F _ (by omega))))) ?_
          refine QW.q rfl rfl (yq_conv_u8_u32 rfl Tryd.underlying5 Tryd.underlying187 (by (conv => lhs; whnf) <;> rfl)) ?_
          refine QW.q rfl rfl (yq_shl_u32 (s := 24) rfl (by (conv => lhs; whnf) <;> rfl) (by (conv => lhs; whnf) <;> rfl) (by decide)) ?_
          refine QW.q rfl rfl (yq_move rfl (by (conv => lhs; whnf) <;> rfl)) ?_
          refine QW.q rfl rfl (yq_move rfl (by (conv => lhs; whnf) <;> rfl)) ?_
          refine QW.q rfl rfl (yq_add rfl (by (conv => lhs; whnf) <;> rfl) (by (conv => lhs; whnf) <;> rfl) (by omega)) ?_
          refine QW.q rfl rfl (yq_index_slice rfl (by (conv => lhs; whnf) <;> rfl) (by (conv => lhs; whnf) <;> rfl) ts92 ti5 (by omega) (by omega)) ?_
          refine QW.q rfl rfl (yq_load_c (v := U8 (F.getD (64 * k + 4 * i + 1) 0)) rfl (by (conv => lhs; whnf) <;> rfl) (fun w hw => run_load_one ti5 (hpb w (hw.own y (List.mem_cons_of_mem _ (List.mem_cons_self ..))) _ _ (by rw [show 0 + ((64 * (k : Int) + 4 * (i : Int) + 1)).toNat * 1 = 64 * k + 4 * i + 1 by omega]; exact bc_at F _ (by omega))))) ?_
          refine QW.q rfl rfl (yq_conv_u8_u32 rfl Tryd.underlying5 Tryd.underlying187 (by (conv => lhs; whnf) <;> rfl)) ?_
          refine QW.q rfl rfl (yq_shl_u32 (s := 16) rfl (by (conv => lhs; whnf) <;> rfl) (by (conv => lhs; whnf) <;> rfl) (by decide)) ?_
          refine QW.q rfl rfl (yq_add_u32 rfl (by (conv => lhs; whnf) <;> rfl) (by (conv => lhs; whnf) <;> rfl)) ?_
          refine QW.q rfl rfl (yq_move rfl (by (conv => lhs; whnf) <;> rfl)) ?_
          refine QW.q rfl rfl (yq_move rfl (by (conv => lhs; whnf) <;> rfl)) ?_
          refine QW.q rfl rfl (yq_add rfl (by (conv => lhs; whnf) <;> rfl) (by (conv => lhs; whnf) <;> rfl) (by omega)) ?_
          refine QW.q rfl rfl (yq_index_slice rfl (by (conv => lhs; whnf) <;> rfl) (by (conv => lhs; whnf) <;> rfl) ts92 ti5 (by omega) (by omega)) ?_
          refine QW.q rfl rfl (yq_load_c (v := U8 (F.getD (64 * k + 4 * i + 2) 0)) rfl (by (conv => lhs; whnf) <;> rfl) (fun w hw => run_load_one ti5 (hpb w (hw.own y (List.mem_cons_of_mem _ (List.mem_cons_self ..))) _ _ (by rw [show 0 + ((64 * (k : Int) + 4 * (i : Int) + 2)).toNat * 1 = 64 * k + 4 * i + 2 by omega]; exact bc_at F _ (by omega))))) ?_
          refine QW.q rfl rfl (yq_conv_u8_u32 rfl Tryd.underlying5 Tryd.underlying187 (by (conv => lhs; whnf) <;> rfl)) ?_
          refine QW.q rfl rfl (yq_shl_u32 (s := 8) rfl (by (conv => lhs; whnf) <;> rfl) (by (conv => lhs; whnf) <;> rfl) (by decide)) ?_
          refine QW.q rfl rfl (yq_add_u32 rfl (by (conv => lhs; whnf) <;> rfl) (by (conv => lhs; whnf) <;> rfl)) ?_
          refine QW.q rfl rfl (yq_move rfl (by (conv => lhs; whnf) <;> rfl)) ?_
          refine QW.q rfl rfl (yq_move rfl (by (conv => lhs; whnf) <;> rfl)) ?_
          refine QW.q rfl rfl (yq_add rfl (by (conv => lhs; whnf) <;> rfl) (by (conv => lhs; whnf) <;> rfl) (by omega)) ?_
          refine QW.q rfl rfl (yq_index_slice rfl (by (conv => lhs; whnf) <;> rfl) (by (conv => lhs; whnf) <;> rfl) ts92 ti5 (by omega) (by omega)) ?_
          refine QW.q rfl rfl (yq_load_c (v := U8 (F.getD (64 * k + 4 * i + 3) 0)) rfl (by (conv => lhs; whnf) <;> rfl) (fun w hw => run_load_one ti5 (hpb w (hw.own y (List.mem_cons_of_mem _ (List.mem_cons_self ..))) _ _ (by rw [show 0 + ((64 * (k : Int) + 4 * (i : Int) + 3)).toNat * 1 = 64 * k + 4 * i + 3 by omega]; exact bc_at F _ (by omega))))) ?_
          refine QW.q rfl rfl (yq_conv_u8_u32 rfl Tryd.underlying5 Tryd.underlying187 (by (conv => lhs; whnf) <;> rfl)) ?_
          refine QW.q rfl rfl (yq_add_u32 rfl (by (conv => lhs; whnf) <;> rfl) (by (conv => lhs; whnf) <;> rfl)) ?_
          refine QW.q rfl rfl (yq_index_arr rfl (by (conv => lhs; whnf) <;> rfl) (by (conv => lhs; whnf) <;> rfl) ta190 ti187 (by omega) (by omega)) ?_
          refine QW.nil ?_
          refine OW.store1 rfl rfl rfl (by (conv => lhs; whnf) <;> rfl) (by (conv => lhs; whnf) <;> rfl) ti187 rfl .head (spl_at eI (schedB_spl X ws i (by omega) hws _ (by rw [nextW, sched_length, if_pos (by omega), hX, List.drop_take, List.take_take, List.drop_drop, show min 4 (64 - 4 * i) = 4 by omega, get4 F (64 * k + 4 * i) (by omega), Nat.add_zero]))) (by rw [List.length_map, schedB_length _ _ _ (by omega) hws]; omega) ?_
          refine OW.nil ?_
          refine hK15 _ _ ?_
          refine CW.region ?_
          refine OW.q rfl rfl (yq_move rfl (by (conv => lhs; whnf) <;> rfl)) ?_
          refine OW.q rfl rfl (yq_add rfl (by (conv => lhs; whnf) <;> rfl) (by (conv => lhs; whnf) <;> rfl) (by omega)) ?_
          refine OW.q rfl rfl (yq_assign rfl (by (conv => lhs; whnf) <;> rfl)) ?_
          refine OW.nil ?_
          exact ⟨i + 1, ⟨Has.mk ⟨(by (conv => lhs; whnf) <;> rfl), (by (conv => lhs; whnf) <;> rfl), (by (conv => lhs; whnf) <;> rfl), (by (conv => lhs; whnf) <;> rfl), (by (conv => lhs; whnf) <;> rfl), (by (conv => lhs; whnf) <;> rfl), (by (conv => lhs; whnf) <;> rfl), trivial⟩, by omega, rfl⟩, by omega⟩
        · have hi16 : i = 16 := by omega
          clear hi hc4 eI
          subst hi16
          refine CW.exit ?_
          refine then_exit ?_
          refine then_exit ?_
          refine blockQ_hit ?_
          refine hK11 _ _ ?_
          refine CW.seq_k fun K17 hK17 => ?_
          refine CW.seq_k fun K18 hK18 => ?_
          refine CW.region ?_
          refine OW.q rfl rfl (yq_assign rfl (by (conv => lhs; whnf) <;> rfl)) ?_
          refine OW.nil ?_
          refine hK18 _ _ ?_
          refine CW.block ?_
          refine CW.loop (σ := Nat) (fun i ρ L => Has ρ [(2, .pointer (some ⟨b2, 0, none⟩)), (3, .pointer (some ⟨b3, 0, none⟩)), (4, .pointer (some ⟨b4, 0, none⟩)), (5, .slice (some ⟨pb, 0, none⟩) F.length cap), (6, .pointer (some ⟨b6, 0, none⟩)), (7, .int .i64 (64 * (k : Int))), (10, .int .i64 (i : Int))] ∧ 16 ≤ i ∧ i ≤ 64 ∧ L = [.blk b6 ((schedB X ws i).map U32) 190 (0, 0), y, .blk b4 (v.l.map U32) 188 (0, 0), .blk b3 (roundKs.map U32) 190 (0, 0), .blk b2 (hc zeroHash) 25 (0, 0)]) (fun i => 64 - i) (16) ?_ ?_
          · exact ⟨Has.mk ⟨(by (conv => lhs; whnf) <;> rfl), (by (conv => lhs; whnf) <;> rfl), (by (conv => lhs; whnf) <;> rfl), (by (conv => lhs; whnf) <;> rfl), (by (conv => lhs; whnf) <;> rfl), (by (conv => lhs; whnf) <;> rfl), (by (conv => lhs; whnf) <;> rfl), trivial⟩, Nat.le_refl _, by decide, rfl⟩
          · rintro i _ _ ⟨⟨ρ', rfl⟩, hi16, hi, rfl⟩
            have eI := h1off i
            refine CW.seq_k fun K19 hK19 => ?_
            refine CW.seq_k fun K20 hK20 => ?_
            refine CW.region ?_
            refine OW.q rfl rfl (yq_move rfl (by (conv => lhs; whnf) <;> rfl)) ?_
            refine OW.q rfl rfl (yq_lss rfl (by (conv => lhs; whnf) <;> rfl) (by (conv => lhs; whnf) <;> rfl)) ?_
            refine OW.nil ?_
            refine hK20 _ _ ?_
            refine CW.cond_dec (by (conv => lhs; whnf) <;> rfl) (fun hc7 => ?_) (fun hc7 => ?_)
            · refine CW.skip ?_
              refine hK19 _ _ ?_
              refine CW.seq_k fun K21 hK21 => ?_
              refine CW.block ?_
              refine CW.seq_k fun K22 hK22 => ?_
              refine CW.draw mixed (by kernel_rfl) ?_
              refine QW.q rfl rfl (yq_move rfl (by (conv => lhs; whnf) <;> rfl)) ?_
              refine QW.q rfl rfl (yq_sub rfl (by (conv => lhs; whnf) <;> rfl) (by (conv => lhs; whnf) <;> rfl) (by omega)) ?_
              refine QW.q rfl rfl (yq_index_arr rfl (by (conv => lhs; whnf) <;> rfl) (by (conv => lhs; whnf) <;> rfl) ta190 ti187 (by omega) (by omega)) ?_
              refine QW.q rfl rfl (yq_load1 rfl (by (conv => lhs; whnf) <;> rfl) ti187 (List.mem_cons_self ..) (by rw [show 0 + ((i : Int) - 15).toNat * 1 = i - 15 by omega]; exact schedB_at _ _ _ _ (by omega) (by omega))) ?_
              refine QW.q rfl rfl (yq_move rfl (by (conv => lhs; whnf) <;> rfl)) ?_
              refine QW.q rfl rfl (yq_sub rfl (by (conv => lhs; whnf) <;> rfl) (by (conv => lhs; whnf) <;> rfl) (by omega)) ?_
              refine QW.q rfl rfl (yq_index_arr rfl (by (conv => lhs; whnf) <;> rfl) (by (conv => lhs; whnf) <;> rfl) ta190 ti187 (by omega) (by omega)) ?_
              refine QW.q rfl rfl (yq_load1 rfl (by (conv => lhs; whnf) <;> rfl) ti187 (List.mem_cons_self ..) (by rw [show 0 + ((i : Int) - 2).toNat * 1 = i - 2 by omega]; exact schedB_at _ _ _ _ (by omega) (by omega))) ?_
              refine QW.q rfl rfl (yq_assign rfl (by (conv => lhs; whnf) <;> rfl)) ?_
              refine QW.q rfl rfl (yq_assign rfl (by (conv => lhs; whnf) <;> rfl)) ?_
              refine QW.nil ?_
              refine hK22 _ _ ?_
              refine CW.drawT 29 mixed (by kernel_rfl) ?_
              refine QW.q rfl rfl (yq_move rfl (by (conv => lhs; whnf) <;> rfl)) ?_
              refine QW.q rfl rfl (yq_move rfl (by (conv => lhs; whnf) <;> rfl)) ?_
              refine QW.q rfl rfl (yq_sub rfl (by (conv => lhs; whnf) <;> rfl) (by (conv => lhs; whnf) <;> rfl) (by omega)) ?_
              refine QW.q rfl rfl (yq_index_arr rfl (by (conv => lhs; whnf) <;> rfl) (by (conv => lhs; whnf) <;> rfl) ta190 ti187 (by omega) (by omega)) ?_
              refine QW.q rfl rfl (yq_load1 rfl (by (conv => lhs; whnf) <;> rfl) ti187 (List.mem_cons_self ..) (by rw [show 0 + ((i : Int) - 16).toNat * 1 = i - 16 by omega]; exact schedB_at _ _ _ _ (by omega) (by omega))) ?_
              refine QW.q rfl rfl (yq_move rfl (by (conv => lhs; whnf) <;> rfl)) ?_
              refine QW.q rfl rfl (yq_call rfl rfl (.cons (by (conv => lhs; whnf) <;> rfl) ( .cons (by (conv => lhs; whnf) <;> rfl) .nil)) en148 (fun w hw => turn_calls _ 7 w (by decide) (by decide))) ?_
              refine QW.q rfl rfl (yq_move rfl (by (conv => lhs; whnf) <;> rfl)) ?_
              refine QW.q rfl rfl (yq_call rfl rfl (.cons (by (conv => lhs; whnf) <;> rfl) ( .cons (by (conv => lhs; whnf) <;> rfl) .nil)) en148 (fun w hw => turn_calls _ 18 w (by decide) (by decide))) ?_
              refine QW.q rfl rfl (yq_xor_u32 rfl (by (conv => lhs; whnf) <;> rfl) (by (conv => lhs; whnf) <;> rfl)) ?_
              refine QW.q rfl rfl (yq_move rfl (by (conv => lhs; whnf) <;> rfl)) ?_
              refine QW.q rfl rfl (yq_shr_u32 (s := 3) rfl (by (conv => lhs; whnf) <;> rfl) (by (conv => lhs; whnf) <;> rfl) (by decide)) ?_
              refine QW.q rfl rfl (yq_xor_u32 rfl (by (conv => lhs; whnf) <;> rfl) (by (conv => lhs; whnf) <;> rfl)) ?_
              refine QW.q rfl rfl (yq_add_u32 rfl (by (conv => lhs; whnf) <;> rfl) (by (conv => lhs; whnf) <;> rfl)) ?_
              refine QW.q rfl rfl (yq_move rfl (by (conv => lhs; whnf) <;> rfl)) ?_
              refine QW.q rfl rfl (yq_sub rfl (by (conv => lhs; whnf) <;> rfl) (by (conv => lhs; whnf) <;> rfl) (by omega)) ?_
              refine QW.q rfl rfl (yq_index_arr rfl (by (conv => lhs; whnf) <;> rfl) (by (conv => lhs; whnf) <;> rfl) ta190 ti187 (by omega) (by omega)) ?_
              refine QW.q rfl rfl (yq_load1 rfl (by (conv => lhs; whnf) <;> rfl) ti187 (List.mem_cons_self ..) (by rw [show 0 + ((i : Int) - 7).toNat * 1 = i - 7 by omega]; exact schedB_at _ _ _ _ (by omega) (by omega))) ?_
              refine QW.q rfl rfl (yq_add_u32 rfl (by (conv => lhs; whnf) <;> rfl) (by (conv => lhs; whnf) <;> rfl)) ?_
              refine QW.q rfl rfl (yq_move rfl (by (conv => lhs; whnf) <;> rfl)) ?_
              refine QW.q rfl rfl (yq_call rfl rfl (.cons (by (conv => lhs; whnf) <;> rfl) ( .cons (by (conv => lhs; whnf) <;> rfl) .nil)) en148 (fun w hw => turn_calls _ 17 w (by decide) (by decide))) ?_
              refine QW.q rfl rfl (yq_move rfl (by (conv => lhs; whnf) <;> rfl)) ?_
              refine QW.q rfl rfl (yq_call rfl rfl (.cons (by (conv => lhs; whnf) <;> rfl) ( .cons (by (conv => lhs; whnf) <;> rfl) .nil)) en148 (fun w hw => turn_calls _ 19 w (by decide) (by decide))) ?_
              refine QW.q rfl rfl (yq_xor_u32 rfl (by (conv => lhs; whnf) <;> rfl) (by (conv => lhs; whnf) <;> rfl)) ?_
              refine QW.q rfl rfl (yq_move rfl (by (conv => lhs; whnf) <;> rfl)) ?_
              refine QW.q rfl rfl (yq_shr_u32 (s := 10) rfl (by (conv => lhs; whnf) <;> rfl) (by (conv => lhs; whnf) <;> rfl) (by decide)) ?_
              refine QW.q rfl rfl (yq_xor_u32 rfl (by (conv => lhs; whnf) <;> rfl) (by (conv => lhs; whnf) <;> rfl)) ?_
              refine QW.q rfl rfl (yq_add_u32 rfl (by (conv => lhs; whnf) <;> rfl) (by (conv => lhs; whnf) <;> rfl)) ?_
              refine QW.q rfl rfl (yq_index_arr rfl (by (conv => lhs; whnf) <;> rfl) (by (conv => lhs; whnf) <;> rfl) ta190 ti187 (by omega) (by omega)) ?_
              refine QW.nil ?_
              refine OW.store1 rfl rfl rfl (by (conv => lhs; whnf) <;> rfl) (by (conv => lhs; whnf) <;> rfl) ti187 rfl .head (spl_at eI (schedB_spl X ws i (by omega) hws _ (by rw [nextW, sched_length, if_neg (by omega)]; unfold sg0 sg1; exact add_rc _ _ _ _))) (by rw [List.length_map, schedB_length _ _ _ (by omega) hws]; omega) ?_
              refine OW.nil ?_
              refine hK21 _ _ ?_
              refine CW.region ?_
              refine OW.q rfl rfl (yq_move rfl (by (conv => lhs; whnf) <;> rfl)) ?_
              refine OW.q rfl rfl (yq_add rfl (by (conv => lhs; whnf) <;> rfl) (by (conv => lhs; whnf) <;> rfl) (by omega)) ?_
              refine OW.q rfl rfl (yq_assign rfl (by (conv => lhs; whnf) <;> rfl)) ?_
              refine OW.nil ?_
              exact ⟨i + 1, ⟨Has.mk ⟨(by (conv => lhs; whnf) <;> rfl), (by (conv => lhs; whnf) <;> rfl), (by (conv => lhs; whnf) <;> rfl), (by (conv => lhs; whnf) <;> rfl), (by (conv => lhs; whnf) <;> rfl), (by (conv => lhs; whnf) <;> rfl), (by (conv => lhs; whnf) <;> rfl), trivial⟩, by omega, by omega, rfl⟩, by omega⟩
            · have hi64 : i = 64 := by omega
              clear hi hc7 eI hi16
              subst hi64
              refine CW.exit ?_
              refine then_exit ?_
              refine then_exit ?_
              refine blockQ_hit ?_
              refine hK17 _ _ ?_
              refine CW.seq_k fun K23 hK23 => ?_
              refine CW.draw mixed (by kernel_rfl) ?_
              refine QW.q rfl rfl (yq_index_arr rfl (by (conv => lhs; whnf) <;> rfl) (by (conv => lhs; whnf) <;> rfl) ta188 ti187 (by decide) (by decide)) ?_
              refine QW.q rfl rfl (yq_load1 rfl (by (conv => lhs; whnf) <;> rfl) ti187 (List.mem_cons_of_mem _ (List.mem_cons_of_mem _ (List.mem_cons_self ..))) rfl) ?_
              refine QW.q rfl rfl (yq_index_arr rfl (by (conv => lhs; whnf) <;> rfl) (by (conv => lhs; whnf) <;> rfl) ta188 ti187 (by decide) (by decide)) ?_
              refine QW.q rfl rfl (yq_load1 rfl (by (conv => lhs; whnf) <;> rfl) ti187 (List.mem_cons_of_mem _ (List.mem_cons_of_mem _ (List.mem_cons_self ..))) rfl) ?_
              refine QW.q rfl rfl (yq_index_arr rfl (by (conv => lhs; whnf) <;> rfl) (by (conv => lhs; whnf) <;> rfl) ta188 ti187 (by decide) (by decide)) ?_
              refine QW.q rfl rfl (yq_load1 rfl (by (conv => lhs; whnf) <;> rfl) ti187 (List.mem_cons_of_mem _ (List.mem_cons_of_mem _ (List.mem_cons_self ..))) rfl) ?_
              refine QW.q rfl rfl (yq_index_arr rfl (by (conv => lhs; whnf) <;> rfl) (by (conv => lhs; whnf) <;> rfl) ta188 ti187 (by decide) (by decide)) ?_
              refine QW.q rfl rfl (yq_load1 rfl (by (conv => lhs; whnf) <;> rfl) ti187 (List.mem_cons_of_mem _ (List.mem_cons_of_mem _ (List.mem_cons_self ..))) rfl) ?_
              refine QW.q rfl rfl (yq_index_arr rfl (by (conv => lhs; whnf) <;> rfl) (by (conv => lhs; whnf) <;> rfl) ta188 ti187 (by decide) (by decide)) ?_
              refine QW.q rfl rfl (yq_load1 rfl (by (conv => lhs; whnf) <;> rfl) ti187 (List.mem_cons_of_mem _ (List.mem_cons_of_mem _ (List.mem_cons_self ..))) rfl) ?_
              refine QW.q rfl rfl (yq_index_arr rfl (by (conv => lhs; whnf) <;> rfl) (by (conv => lhs; whnf) <;> rfl) ta188 ti187 (by decide) (by decide)) ?_
              refine QW.q rfl rfl (yq_load1 rfl (by (conv => lhs; whnf) <;> rfl) ti187 (List.mem_cons_of_mem _ (List.mem_cons_of_mem _ (List.mem_cons_self ..))) rfl) ?_
              refine QW.q rfl rfl (yq_index_arr rfl (by (conv => lhs; whnf) <;> rfl) (by (conv => lhs; whnf) <;> rfl) ta188 ti187 (by decide) (by decide)) ?_
              refine QW.q rfl rfl (yq_load1 rfl (by (conv => lhs; whnf) <;> rfl) ti187 (List.mem_cons_of_mem _ (List.mem_cons_of_mem _ (List.mem_cons_self ..))) rfl) ?_
              refine QW.q rfl rfl (yq_index_arr rfl (by (conv => lhs; whnf) <;> rfl) (by (conv => lhs; whnf) <;> rfl) ta188 ti187 (by decide) (by decide)) ?_
              refine QW.q rfl rfl (yq_load1 rfl (by (conv => lhs; whnf) <;> rfl) ti187 (List.mem_cons_of_mem _ (List.mem_cons_of_mem _ (List.mem_cons_self ..))) rfl) ?_
              refine QW.q rfl rfl (yq_assign rfl (by (conv => lhs; whnf) <;> rfl)) ?_
              refine QW.q rfl rfl (yq_assign rfl (by (conv => lhs; whnf) <;> rfl)) ?_
              refine QW.q rfl rfl (yq_assign rfl (by (conv => lhs; whnf) <;> rfl)) ?_
              refine QW.q rfl rfl (yq_assign rfl (by (conv => lhs; whnf) <;> rfl)) ?_
              refine QW.q rfl rfl (yq_assign rfl (by (conv => lhs; whnf) <;> rfl)) ?_
              refine QW.q rfl rfl (yq_assign rfl (by (conv => lhs; whnf) <;> rfl)) ?_
              refine QW.q rfl rfl (yq_assign rfl (by (conv => lhs; whnf) <;> rfl)) ?_
              refine QW.q rfl rfl (yq_assign rfl (by (conv => lhs; whnf) <;> rfl)) ?_
              refine QW.nil ?_
              refine hK23 _ _ ?_
              refine CW.seq_k fun K24 hK24 => ?_
              refine CW.seq_k fun K25 hK25 => ?_
              refine CW.region ?_
              refine OW.q rfl rfl (yq_assign rfl (by (conv => lhs; whnf) <;> rfl)) ?_
              refine OW.nil ?_
              refine hK25 _ _ ?_
              refine CW.block ?_
              refine CW.loop (σ := Nat) (fun i ρ L => (∃ vi, vi = rounds8 (sched X 64) v i ∧ Has ρ [(2, .pointer (some ⟨b2, 0, none⟩)), (3, .pointer (some ⟨b3, 0, none⟩)), (4, .pointer (some ⟨b4, 0, none⟩)), (5, .slice (some ⟨pb, 0, none⟩) F.length cap), (6, .pointer (some ⟨b6, 0, none⟩)), (7, .int .i64 (64 * (k : Int))), (13, U32 vi.a), (14, U32 vi.b), (15, U32 vi.c), (16, U32 vi.d), (17, U32 vi.e), (18, U32 vi.f), (19, U32 vi.g), (20, U32 vi.h), (21, .int .i64 (i : Int))]) ∧ i ≤ 64 ∧ L = [.blk b6 ((schedB X ws 64).map U32) 190 (0, 0), y, .blk b4 (v.l.map U32) 188 (0, 0), .blk b3 (roundKs.map U32) 190 (0, 0), .blk b2 (hc zeroHash) 25 (0, 0)]) (fun i => 64 - i) (0) ?_ ?_
              · exact ⟨⟨v, by rw [rounds8_zero], Has.mk ⟨(by (conv => lhs; whnf) <;> rfl), (by (conv => lhs; whnf) <;> rfl), (by (conv => lhs; whnf) <;> rfl), (by (conv => lhs; whnf) <;> rfl), (by (conv => lhs; whnf) <;> rfl), (by (conv => lhs; whnf) <;> rfl), (by (conv => lhs; whnf) <;> rfl), (by (conv => lhs; whnf) <;> rfl), (by (conv => lhs; whnf) <;> rfl), (by (conv => lhs; whnf) <;> rfl), (by (conv => lhs; whnf) <;> rfl), (by (conv => lhs; whnf) <;> rfl), (by (conv => lhs; whnf) <;> rfl), (by (conv => lhs; whnf) <;> rfl), (by (conv => lhs; whnf) <;> rfl), trivial⟩⟩, Nat.zero_le _, rfl⟩
              · rintro i _ _ ⟨⟨vi, hvi, ⟨ρ', rfl⟩⟩, hi, rfl⟩
                have eI := h1off i
                refine CW.seq_k fun K26 hK26 => ?_
                refine CW.seq_k fun K27 hK27 => ?_
                refine CW.region ?_
                refine OW.q rfl rfl (yq_move rfl (by (conv => lhs; whnf) <;> rfl)) ?_
                refine OW.q rfl rfl (yq_lss rfl (by (conv => lhs; whnf) <;> rfl) (by (conv => lhs; whnf) <;> rfl)) ?_
                refine OW.nil ?_
                refine hK27 _ _ ?_
                refine CW.cond_dec (by (conv => lhs; whnf) <;> rfl) (fun hc10 => ?_) (fun hc10 => ?_)
                · have hlt64 : i < 64 := by omega
                  refine CW.skip ?_
                  refine hK26 _ _ ?_
                  refine CW.seq_k fun K28 hK28 => ?_
                  refine CW.block ?_
                  refine CW.seq_k fun K29 hK29 => ?_
                  refine CW.draw mixed (by kernel_rfl) ?_
                  refine QW.q rfl rfl (yq_move rfl (by (conv => lhs; whnf) <;> rfl)) ?_
                  refine QW.q rfl rfl (yq_move rfl (by (conv => lhs; whnf) <;> rfl)) ?_
                  refine QW.q rfl rfl (yq_call rfl rfl (.cons (by (conv => lhs; whnf) <;> rfl) ( .cons (by (conv => lhs; whnf) <;> rfl) .nil)) en148 (fun w hw => turn_calls _ 6 w (by decide) (by decide))) ?_
                  refine QW.q rfl rfl (yq_move rfl (by (conv => lhs; whnf) <;> rfl)) ?_
                  refine QW.q rfl rfl (yq_call rfl rfl (.cons (by (conv => lhs; whnf) <;> rfl) ( .cons (by (conv => lhs; whnf) <;> rfl) .nil)) en148 (fun w hw => turn_calls _ 11 w (by decide) (by decide))) ?_
                  refine QW.q rfl rfl (yq_xor_u32 rfl (by (conv => lhs; whnf) <;> rfl) (by (conv => lhs; whnf) <;> rfl)) ?_
                  refine QW.q rfl rfl (yq_move rfl (by (conv => lhs; whnf) <;> rfl)) ?_
                  refine QW.q rfl rfl (yq_call rfl rfl (.cons (by (conv => lhs; whnf) <;> rfl) ( .cons (by (conv => lhs; whnf) <;> rfl) .nil)) en148 (fun w hw => turn_calls _ 25 w (by decide) (by decide))) ?_
                  refine QW.q rfl rfl (yq_xor_u32 rfl (by (conv => lhs; whnf) <;> rfl) (by (conv => lhs; whnf) <;> rfl)) ?_
                  refine QW.q rfl rfl (yq_add_u32 rfl (by (conv => lhs; whnf) <;> rfl) (by (conv => lhs; whnf) <;> rfl)) ?_
                  refine QW.q rfl rfl (yq_move rfl (by (conv => lhs; whnf) <;> rfl)) ?_
                  refine QW.q rfl rfl (yq_move rfl (by (conv => lhs; whnf) <;> rfl)) ?_
                  refine QW.q rfl rfl (yq_and_u32 rfl (by (conv => lhs; whnf) <;> rfl) (by (conv => lhs; whnf) <;> rfl)) ?_
                  refine QW.q rfl rfl (yq_move rfl (by (conv => lhs; whnf) <;> rfl)) ?_
                  refine QW.q rfl rfl (yq_not_u32 rfl (by (conv => lhs; whnf) <;> rfl)) ?_
                  refine QW.q rfl rfl (yq_move rfl (by (conv => lhs; whnf) <;> rfl)) ?_
                  refine QW.q rfl rfl (yq_and_u32 rfl (by (conv => lhs; whnf) <;> rfl) (by (conv => lhs; whnf) <;> rfl)) ?_
                  refine QW.q rfl rfl (yq_xor_u32 rfl (by (conv => lhs; whnf) <;> rfl) (by (conv => lhs; whnf) <;> rfl)) ?_
                  refine QW.q rfl rfl (yq_add_u32 rfl (by (conv => lhs; whnf) <;> rfl) (by (conv => lhs; whnf) <;> rfl)) ?_
                  refine QW.q rfl rfl (yq_move rfl (by (conv => lhs; whnf) <;> rfl)) ?_
                  refine QW.q rfl rfl (yq_index_arr rfl (by (conv => lhs; whnf) <;> rfl) (by (conv => lhs; whnf) <;> rfl) ta190 ti187 (by omega) (by omega)) ?_
                  refine QW.q rfl rfl (yq_load1 rfl (by (conv => lhs; whnf) <;> rfl) ti187 (List.mem_cons_of_mem _ (List.mem_cons_of_mem _ (List.mem_cons_of_mem _ (List.mem_cons_self ..)))) (by rw [eI]; exact map_at roundKs i (by exact hlt64))) ?_
                  refine QW.q rfl rfl (yq_add_u32 rfl (by (conv => lhs; whnf) <;> rfl) (by (conv => lhs; whnf) <;> rfl)) ?_
                  refine QW.q rfl rfl (yq_move rfl (by (conv => lhs; whnf) <;> rfl)) ?_
                  refine QW.q rfl rfl (yq_index_arr rfl (by (conv => lhs; whnf) <;> rfl) (by (conv => lhs; whnf) <;> rfl) ta190 ti187 (by omega) (by omega)) ?_
                  refine QW.q rfl rfl (yq_load1 rfl (by (conv => lhs; whnf) <;> rfl) ti187 (List.mem_cons_self ..) (by rw [eI]; exact schedB_at _ _ _ _ (by omega) (by omega))) ?_
                  refine QW.q rfl rfl (yq_add_u32 rfl (by (conv => lhs; whnf) <;> rfl) (by (conv => lhs; whnf) <;> rfl)) ?_
                  refine QW.q rfl rfl (yq_assign rfl (by (conv => lhs; whnf) <;> rfl)) ?_
                  refine QW.nil ?_
                  refine hK29 _ _ ?_
                  refine CW.seq_k fun K30 hK30 => ?_
                  refine CW.region ?_
                  refine OW.q rfl rfl (yq_move rfl (by (conv => lhs; whnf) <;> rfl)) ?_
                  refine OW.q rfl rfl (yq_call rfl rfl (.cons (by (conv => lhs; whnf) <;> rfl) ( .cons (by (conv => lhs; whnf) <;> rfl) .nil)) en148 (fun w hw => turn_calls _ 2 w (by decide) (by decide))) ?_
                  refine OW.q rfl rfl (yq_move rfl (by (conv => lhs; whnf) <;> rfl)) ?_
                  refine OW.q rfl rfl (yq_call rfl rfl (.cons (by (conv => lhs; whnf) <;> rfl) ( .cons (by (conv => lhs; whnf) <;> rfl) .nil)) en148 (fun w hw => turn_calls _ 13 w (by decide) (by decide))) ?_
                  refine OW.q rfl rfl (yq_xor_u32 rfl (by (conv => lhs; whnf) <;> rfl) (by (conv => lhs; whnf) <;> rfl)) ?_
                  refine OW.q rfl rfl (yq_move rfl (by (conv => lhs; whnf) <;> rfl)) ?_
                  refine OW.q rfl rfl (yq_call rfl rfl (.cons (by (conv => lhs; whnf) <;> rfl) ( .cons (by (conv => lhs; whnf) <;> rfl) .nil)) en148 (fun w hw => turn_calls _ 22 w (by decide) (by decide))) ?_
                  refine OW.q rfl rfl (yq_xor_u32 rfl (by (conv => lhs; whnf) <;> rfl) (by (conv => lhs; whnf) <;> rfl)) ?_
                  refine OW.q rfl rfl (yq_move rfl (by (conv => lhs; whnf) <;> rfl)) ?_
                  refine OW.q rfl rfl (yq_move rfl (by (conv => lhs; whnf) <;> rfl)) ?_
                  refine OW.q rfl rfl (yq_and_u32 rfl (by (conv => lhs; whnf) <;> rfl) (by (conv => lhs; whnf) <;> rfl)) ?_
                  refine OW.q rfl rfl (yq_move rfl (by (conv => lhs; whnf) <;> rfl)) ?_
                  refine OW.q rfl rfl (yq_move rfl (by (conv => lhs; whnf) <;> rfl)) ?_
                  refine OW.q rfl rfl (yq_and_u32 rfl (by (conv => lhs; whnf) <;> rfl) (by (conv => lhs; whnf) <;> rfl)) ?_
                  refine OW.q rfl rfl (yq_xor_u32 rfl (by (conv => lhs; whnf) <;> rfl) (by (conv => lhs; whnf) <;> rfl)) ?_
                  refine OW.q rfl rfl (yq_move rfl (by (conv => lhs; whnf) <;> rfl)) ?_
                  refine OW.q rfl rfl (yq_move rfl (by (conv => lhs; whnf) <;> rfl)) ?_
                  refine OW.q rfl rfl (yq_and_u32 rfl (by (conv => lhs; whnf) <;> rfl) (by (conv => lhs; whnf) <;> rfl)) ?_
                  refine OW.q rfl rfl (yq_xor_u32 rfl (by (conv => lhs; whnf) <;> rfl) (by (conv => lhs; whnf) <;> rfl)) ?_
                  refine OW.q rfl rfl (yq_add_u32 rfl (by (conv => lhs; whnf) <;> rfl) (by (conv => lhs; whnf) <;> rfl)) ?_
                  refine OW.q rfl rfl (yq_assign rfl (by (conv => lhs; whnf) <;> rfl)) ?_
                  refine OW.nil ?_
                  refine hK30 _ _ ?_
                  refine CW.region ?_
                  refine OW.q rfl rfl (yq_move rfl (by (conv => lhs; whnf) <;> rfl)) ?_
                  refine OW.q rfl rfl (yq_move rfl (by (conv => lhs; whnf) <;> rfl)) ?_
                  refine OW.q rfl rfl (yq_move rfl (by (conv => lhs; whnf) <;> rfl)) ?_
                  refine OW.q rfl rfl (yq_move rfl (by (conv => lhs; whnf) <;> rfl)) ?_
                  refine OW.q rfl rfl (yq_move rfl (by (conv => lhs; whnf) <;> rfl)) ?_
                  refine OW.q rfl rfl (yq_add_u32 rfl (by (conv => lhs; whnf) <;> rfl) (by (conv => lhs; whnf) <;> rfl)) ?_
                  refine OW.q rfl rfl (yq_move rfl (by (conv => lhs; whnf) <;> rfl)) ?_
                  refine OW.q rfl rfl (yq_move rfl (by (conv => lhs; whnf) <;> rfl)) ?_
                  refine OW.q rfl rfl (yq_move rfl (by (conv => lhs; whnf) <;> rfl)) ?_
                  refine OW.q rfl rfl (yq_move rfl (by (conv => lhs; whnf) <;> rfl)) ?_
                  refine OW.q rfl rfl (yq_move rfl (by (conv => lhs; whnf) <;> rfl)) ?_
                  refine OW.q rfl rfl (yq_add_u32 rfl (by (conv => lhs; whnf) <;> rfl) (by (conv => lhs; whnf) <;> rfl)) ?_
                  refine OW.q rfl rfl (yq_assign rfl (by (conv => lhs; whnf) <;> rfl)) ?_
                  refine OW.q rfl rfl (yq_assign rfl (by (conv => lhs; whnf) <;> rfl)) ?_
                  refine OW.q rfl rfl (yq_assign rfl (by (conv => lhs; whnf) <;> rfl)) ?_
                  refine OW.q rfl rfl (yq_assign rfl (by (conv => lhs; whnf) <;> rfl)) ?_
                  refine OW.q rfl rfl (yq_assign rfl (by (conv => lhs; whnf) <;> rfl)) ?_
                  refine OW.q rfl rfl (yq_assign rfl (by (conv => lhs; whnf) <;> rfl)) ?_
                  refine OW.q rfl rfl (yq_assign rfl (by (conv => lhs; whnf) <;> rfl)) ?_
                  refine OW.q rfl rfl (yq_assign rfl (by (conv => lhs; whnf) <;> rfl)) ?_
                  refine OW.nil ?_
                  refine hK28 _ _ ?_
                  refine CW.region ?_
                  refine OW.q rfl rfl (yq_move rfl (by (conv => lhs; whnf) <;> rfl)) ?_
                  refine OW.q rfl rfl (yq_add rfl (by (conv => lhs; whnf) <;> rfl) (by (conv => lhs; whnf) <;> rfl) (by omega)) ?_
                  refine OW.q rfl rfl (yq_assign rfl (by (conv => lhs; whnf) <;> rfl)) ?_
                  refine OW.nil ?_
                  exact ⟨i + 1, ⟨⟨step8 vi (roundKs.getD i 0) ((sched X 64).getD i 0), by rw [rounds8_succ, ← hvi], Has.mk ⟨(by (conv => lhs; whnf) <;> rfl), (by (conv => lhs; whnf) <;> rfl), (by (conv => lhs; whnf) <;> rfl), (by (conv => lhs; whnf) <;> rfl), (by (conv => lhs; whnf) <;> rfl), (by (conv => lhs; whnf) <;> rfl), (by (conv => lhs; whnf) <;> rfl), (by (conv => lhs; whnf) <;> rfl), (by (conv => lhs; whnf) <;> rfl), (by (conv => lhs; whnf) <;> rfl), (by (conv => lhs; whnf) <;> rfl), (by (conv => lhs; whnf) <;> rfl), (by (conv => lhs; whnf) <;> rfl), (by (conv => lhs; whnf) <;> rfl), (by (conv => lhs; whnf) <;> rfl), trivial⟩⟩, by omega, rfl⟩, by omega⟩
                · have hi64 : i = 64 := by omega
                  clear hi hc10 eI
                  subst hi64
                  refine CW.exit ?_
                  refine then_exit ?_
                  refine then_exit ?_
                  refine blockQ_hit ?_
                  refine hK24 _ _ ?_
                  refine CW.region ?_
                  refine OW.q rfl rfl (yq_index_arr rfl (by (conv => lhs; whnf) <;> rfl) (by (conv => lhs; whnf) <;> rfl) ta188 ti187 (by decide) (by decide)) ?_
                  refine OW.q rfl rfl (yq_load1 rfl (by (conv => lhs; whnf) <;> rfl) ti187 (List.mem_cons_of_mem _ (List.mem_cons_of_mem _ (List.mem_cons_self ..))) rfl) ?_
                  refine OW.q rfl rfl (yq_move rfl (by (conv => lhs; whnf) <;> rfl)) ?_
                  refine OW.q rfl rfl (yq_add_u32 rfl (by (conv => lhs; whnf) <;> rfl) (by (conv => lhs; whnf) <;> rfl)) ?_
                  refine OW.q rfl rfl (yq_index_arr rfl (by (conv => lhs; whnf) <;> rfl) (by (conv => lhs; whnf) <;> rfl) ta188 ti187 (by decide) (by decide)) ?_
                  refine OW.q rfl rfl (yq_load1 rfl (by (conv => lhs; whnf) <;> rfl) ti187 (List.mem_cons_of_mem _ (List.mem_cons_of_mem _ (List.mem_cons_self ..))) rfl) ?_
                  refine OW.q rfl rfl (yq_move rfl (by (conv => lhs; whnf) <;> rfl)) ?_
                  refine OW.q rfl rfl (yq_add_u32 rfl (by (conv => lhs; whnf) <;> rfl) (by (conv => lhs; whnf) <;> rfl)) ?_
                  refine OW.q rfl rfl (yq_index_arr rfl (by (conv => lhs; whnf) <;> rfl) (by (conv => lhs; whnf) <;> rfl) ta188 ti187 (by decide) (by decide)) ?_
                  refine OW.q rfl rfl (yq_load1 rfl (by (conv => lhs; whnf) <;> rfl) ti187 (List.mem_cons_of_mem _ (List.mem_cons_of_mem _ (List.mem_cons_self ..))) rfl) ?_
                  refine OW.q rfl rfl (yq_move rfl (by (conv => lhs; whnf) <;> rfl)) ?_
                  refine OW.q rfl rfl (yq_add_u32 rfl (by (conv => lhs; whnf) <;> rfl) (by (conv => lhs; whnf) <;> rfl)) ?_
                  refine OW.q rfl rfl (yq_index_arr rfl (by (conv => lhs; whnf) <;> rfl) (by (conv => lhs; whnf) <;> rfl) ta188 ti187 (by decide) (by decide)) ?_
                  refine OW.q rfl rfl (yq_load1 rfl (by (conv => lhs; whnf) <;> rfl) ti187 (List.mem_cons_of_mem _ (List.mem_cons_of_mem _ (List.mem_cons_self ..))) rfl) ?_
                  refine OW.q rfl rfl (yq_move rfl (by (conv => lhs; whnf) <;> rfl)) ?_
                  refine OW.q rfl rfl (yq_add_u32 rfl (by (conv => lhs; whnf) <;> rfl) (by (conv => lhs; whnf) <;> rfl)) ?_
                  refine OW.q rfl rfl (yq_index_arr rfl (by (conv => lhs; whnf) <;> rfl) (by (conv => lhs; whnf) <;> rfl) ta188 ti187 (by decide) (by decide)) ?_
                  refine OW.q rfl rfl (yq_load1 rfl (by (conv => lhs; whnf) <;> rfl) ti187 (List.mem_cons_of_mem _ (List.mem_cons_of_mem _ (List.mem_cons_self ..))) rfl) ?_
                  refine OW.q rfl rfl (yq_move rfl (by (conv => lhs; whnf) <;> rfl)) ?_
                  refine OW.q rfl rfl (yq_add_u32 rfl (by (conv => lhs; whnf) <;> rfl) (by (conv => lhs; whnf) <;> rfl)) ?_
                  refine OW.q rfl rfl (yq_index_arr rfl (by (conv => lhs; whnf) <;> rfl) (by (conv => lhs; whnf) <;> rfl) ta188 ti187 (by decide) (by decide)) ?_
                  refine OW.q rfl rfl (yq_load1 rfl (by (conv => lhs; whnf) <;> rfl) ti187 (List.mem_cons_of_mem _ (List.mem_cons_of_mem _ (List.mem_cons_self ..))) rfl) ?_
                  refine OW.q rfl rfl (yq_move rfl (by (conv => lhs; whnf) <;> rfl)) ?_
                  refine OW.q rfl rfl (yq_add_u32 rfl (by (conv => lhs; whnf) <;> rfl) (by (conv => lhs; whnf) <;> rfl)) ?_
                  refine OW.q rfl rfl (yq_index_arr rfl (by (conv => lhs; whnf) <;> rfl) (by (conv => lhs; whnf) <;> rfl) ta188 ti187 (by decide) (by decide)) ?_
                  refine OW.q rfl rfl (yq_load1 rfl (by (conv => lhs; whnf) <;> rfl) ti187 (List.mem_cons_of_mem _ (List.mem_cons_of_mem _ (List.mem_cons_self ..))) rfl) ?_
                  refine OW.q rfl rfl (yq_move rfl (by (conv => lhs; whnf) <;> rfl)) ?_
                  refine OW.q rfl rfl (yq_add_u32 rfl (by (conv => lhs; whnf) <;> rfl) (by (conv => lhs; whnf) <;> rfl)) ?_
                  refine OW.q rfl rfl (yq_index_arr rfl (by (conv => lhs; whnf) <;> rfl) (by (conv => lhs; whnf) <;> rfl) ta188 ti187 (by decide) (by decide)) ?_
                  refine OW.q rfl rfl (yq_load1 rfl (by (conv => lhs; whnf) <;> rfl) ti187 (List.mem_cons_of_mem _ (List.mem_cons_of_mem _ (List.mem_cons_self ..))) rfl) ?_
                  refine OW.q rfl rfl (yq_move rfl (by (conv => lhs; whnf) <;> rfl)) ?_
                  refine OW.q rfl rfl (yq_add_u32 rfl (by (conv => lhs; whnf) <;> rfl) (by (conv => lhs; whnf) <;> rfl)) ?_
                  refine OW.q rfl rfl (yq_index_arr rfl (by (conv => lhs; whnf) <;> rfl) (by (conv => lhs; whnf) <;> rfl) ta188 ti187 (by decide) (by decide)) ?_
                  refine OW.store1 rfl rfl rfl (by (conv => lhs; whnf) <;> rfl) (by (conv => lhs; whnf) <;> rfl) ti187 rfl (.tail (.tail .head)) rfl (Nat.le_of_ble_eq_true rfl) ?_
                  refine OW.q rfl rfl (yq_index_arr rfl (by (conv => lhs; whnf) <;> rfl) (by (conv => lhs; whnf) <;> rfl) ta188 ti187 (by decide) (by decide)) ?_
                  refine OW.store1 rfl rfl rfl (by (conv => lhs; whnf) <;> rfl) (by (conv => lhs; whnf) <;> rfl) ti187 rfl (.tail (.tail .head)) rfl (Nat.le_of_ble_eq_true rfl) ?_
                  refine OW.q rfl rfl (yq_index_arr rfl (by (conv => lhs; whnf) <;> rfl) (by (conv => lhs; whnf) <;> rfl) ta188 ti187 (by decide) (by decide)) ?_
                  refine OW.store1 rfl rfl rfl (by (conv => lhs; whnf) <;> rfl) (by (conv => lhs; whnf) <;> rfl) ti187 rfl (.tail (.tail .head)) rfl (Nat.le_of_ble_eq_true rfl) ?_
                  refine OW.q rfl rfl (yq_index_arr rfl (by (conv => lhs; whnf) <;> rfl) (by (conv => lhs; whnf) <;> rfl) ta188 ti187 (by decide) (by decide)) ?_
                  refine OW.store1 rfl rfl rfl (by (conv => lhs; whnf) <;> rfl) (by (conv => lhs; whnf) <;> rfl) ti187 rfl (.tail (.tail .head)) rfl (Nat.le_of_ble_eq_true rfl) ?_
                  refine OW.q rfl rfl (yq_index_arr rfl (by (conv => lhs; whnf) <;> rfl) (by (conv => lhs; whnf) <;> rfl) ta188 ti187 (by decide) (by decide)) ?_
                  refine OW.store1 rfl rfl rfl (by (conv => lhs; whnf) <;> rfl) (by (conv => lhs; whnf) <;> rfl) ti187 rfl (.tail (.tail .head)) rfl (Nat.le_of_ble_eq_true rfl) ?_
                  refine OW.q rfl rfl (yq_index_arr rfl (by (conv => lhs; whnf) <;> rfl) (by (conv => lhs; whnf) <;> rfl) ta188 ti187 (by decide) (by decide)) ?_
                  refine OW.store1 rfl rfl rfl (by (conv => lhs; whnf) <;> rfl) (by (conv => lhs; whnf) <;> rfl) ti187 rfl (.tail (.tail .head)) rfl (Nat.le_of_ble_eq_true rfl) ?_
                  refine OW.q rfl rfl (yq_index_arr rfl (by (conv => lhs; whnf) <;> rfl) (by (conv => lhs; whnf) <;> rfl) ta188 ti187 (by decide) (by decide)) ?_
                  refine OW.store1 rfl rfl rfl (by (conv => lhs; whnf) <;> rfl) (by (conv => lhs; whnf) <;> rfl) ti187 rfl (.tail (.tail .head)) rfl (Nat.le_of_ble_eq_true rfl) ?_
                  refine OW.q rfl rfl (yq_index_arr rfl (by (conv => lhs; whnf) <;> rfl) (by (conv => lhs; whnf) <;> rfl) ta188 ti187 (by decide) (by decide)) ?_
                  refine OW.store1 rfl rfl rfl (by (conv => lhs; whnf) <;> rfl) (by (conv => lhs; whnf) <;> rfl) ti187 rfl (.tail (.tail .head)) rfl (Nat.le_of_ble_eq_true rfl) ?_
                  refine OW.nil ?_
                  refine hK10 _ _ ?_
                  refine CW.region ?_
                  refine OW.q rfl rfl (yq_move rfl (by (conv => lhs; whnf) <;> rfl)) ?_
                  refine OW.q rfl rfl (yq_add rfl (by (conv => lhs; whnf) <;> rfl) (by (conv => lhs; whnf) <;> rfl) (by omega)) ?_
                  refine OW.q rfl rfl (yq_assign rfl (by (conv => lhs; whnf) <;> rfl)) ?_
                  refine OW.nil ?_
                  refine ⟨(k + 1, v2, schedB X ws 64), ⟨Has.mk ⟨(by (conv => lhs; whnf) <;> rfl), (by (conv => lhs; whnf) <;> rfl), (by (conv => lhs; whnf) <;> rfl), (by (conv => lhs; whnf) <;> rfl), (by (conv => lhs; whnf) <;> rfl), ?_, trivial⟩, hlt, schedB_length _ _ _ (Nat.le_refl _) hws, ?_, ?_⟩, by show N - (k + 1) < N - k; omega⟩
                  · conv => lhs; whnf
                    rw [show 64 * (k : Int) + 64 = 64 * ((k + 1 : Nat) : Int) by omega]
                  · rw [← hb, show N - k = (N - (k + 1)) + 1 by omega, blocks8_succ, List.drop_drop, show 64 * (k + 1) = 64 * k + 64 by omega, hv2, hX]
                  · rw [show v2.l.map U32 = [U32 (v.a + vi.a), U32 (v.b + vi.b), U32 (v.c + vi.c), U32 (v.d + vi.d), U32 (v.e + vi.e), U32 (v.f + vi.f), U32 (v.g + vi.g), U32 (v.h + vi.h)] by rw [hv2, mix8_eq, ← hvi, add8_comm]; rfl]
                    rfl
    · have hkN : k = N := by omega
      clear hk hc1
      subst hkN
      have hv : v = blocks8 firstS k F := by rw [← hb, Nat.sub_self, blocks8_zero]
      clear hb
      have hBv : B = outB v := by rw [hB0, hv]
      clear hv
      refine CW.exit ?_
      refine then_exit ?_
      refine then_exit ?_
      refine blockQ_hit ?_
      refine hK6 _ _ ?_
      refine CW.seq_k fun K31 hK31 => ?_
      refine CW.region ?_
      refine OW.drop (L' := [.blk b4 (v.l.map U32) 188 (0, 0), .blk b2 (hc zeroHash) 25 (0, 0)]) (.cons _ (.cons _ (.cons_cons _ (.cons _ (.cons_cons _ .slnil))))) ?_
      refine OW.alloc rfl rfl rfl tz25 (fun b24 => ?_)
      refine OW.nil ?_
      refine hK31 _ _ ?_
      refine CW.seq_k fun K32 hK32 => ?_
      refine CW.seq_k fun K33 hK33 => ?_
      refine CW.region ?_
      refine OW.q rfl rfl (yq_assign rfl (by (conv => lhs; whnf) <;> rfl)) ?_
      refine OW.nil ?_
      refine hK33 _ _ ?_
      refine CW.block ?_
      refine CW.loop (σ := Nat) (fun i ρ L => Has ρ [(2, .pointer (some ⟨b2, 0, none⟩)), (4, .pointer (some ⟨b4, 0, none⟩)), (24, .pointer (some ⟨b24, 0, none⟩)), (25, .int .i64 (i : Int))] ∧ i ≤ 32 ∧ L = [.blk b24 (outI B i) 25 (0, 0), .blk b4 (v.l.map U32) 188 (0, 0), .blk b2 (hc zeroHash) 25 (0, 0)]) (fun i => 32 - i) (0) ?_ ?_
      · exact ⟨Has.mk ⟨(by (conv => lhs; whnf) <;> rfl), (by (conv => lhs; whnf) <;> rfl), (by (conv => lhs; whnf) <;> rfl), (by (conv => lhs; whnf) <;> rfl), trivial⟩, Nat.zero_le _, by rw [outI_zero, ← hc_zero]⟩
      · rintro i _ _ ⟨⟨ρ', rfl⟩, hi, rfl⟩
        have eI := h1off i
        refine CW.seq_k fun K34 hK34 => ?_
        refine CW.seq_k fun K35 hK35 => ?_
        refine CW.region ?_
        refine OW.q rfl rfl (yq_move rfl (by (conv => lhs; whnf) <;> rfl)) ?_
        refine OW.q rfl rfl (yq_lss rfl (by (conv => lhs; whnf) <;> rfl) (by (conv => lhs; whnf) <;> rfl)) ?_
        refine OW.nil ?_
        refine hK35 _ _ ?_
        refine CW.cond_dec (by (conv => lhs; whnf) <;> rfl) (fun hc13 => ?_) (fun hc13 => ?_)
        · refine CW.skip ?_
          refine hK34 _ _ ?_
          refine CW.seq_k fun K36 hK36 => ?_
          refine CW.block ?_
          refine CW.region ?_
          refine OW.q rfl rfl (yq_move rfl (by (conv => lhs; whnf) <;> rfl)) ?_
          refine OW.q rfl rfl (yq_move rfl (by (conv => lhs; whnf) <;> rfl)) ?_
          refine OW.q rfl rfl (yq_quo rfl (by (conv => lhs; whnf) <;> rfl) (by (conv => lhs; whnf) <;> rfl) (by omega)) ?_
          refine OW.q rfl rfl (yq_index_arr rfl (by (conv => lhs; whnf) <;> rfl) (by (conv => lhs; whnf) <;> rfl) ta188 ti187 (by omega) (by omega)) ?_
          refine OW.q rfl rfl (yq_load1 rfl (by (conv => lhs; whnf) <;> rfl) ti187 (List.mem_cons_of_mem _ (List.mem_cons_self ..)) (by rw [show 0 + ((i : Int) / 4).toNat * 1 = i / 4 by omega]; exact l_at _ _ (by omega))) ?_
          refine OW.q rfl rfl (yq_move rfl (by (conv => lhs; whnf) <;> rfl)) ?_
          refine OW.q rfl rfl (yq_rem rfl (by (conv => lhs; whnf) <;> rfl) (by (conv => lhs; whnf) <;> rfl) (by omega)) ?_
          refine OW.q rfl rfl (yq_mul rfl (by (conv => lhs; whnf) <;> rfl) (by (conv => lhs; whnf) <;> rfl) (by omega)) ?_
          refine OW.q rfl rfl (yq_sub_e (r := ((24 - 8 * (i % 4) : Nat) : Int)) rfl (by (conv => lhs; whnf) <;> rfl) (by (conv => lhs; whnf) <;> rfl) (by rw [wrap64_in (by omega)]; omega)) ?_
          refine OW.q rfl rfl (yq_shr_u32 (s := 24 - 8 * (i % 4)) rfl (by (conv => lhs; whnf) <;> rfl) (by (conv => lhs; whnf) <;> rfl) (by omega)) ?_
          refine OW.q rfl rfl (yq_conv_u32_u8 rfl Tryd.underlying187 Tryd.underlying5 (by (conv => lhs; whnf) <;> rfl)) ?_
          refine OW.q rfl rfl (yq_index_arr rfl (by (conv => lhs; whnf) <;> rfl) (by (conv => lhs; whnf) <;> rfl) ta25 ti5 (by omega) (by omega)) ?_
          refine OW.store1 rfl rfl rfl (by (conv => lhs; whnf) <;> rfl) (by (conv => lhs; whnf) <;> rfl) ti5 rfl .head (spl_at eI (outI_spl B hB i (by omega) _ (by rw [hBv]; exact outB_at v i (by omega)))) (by rw [outI_length _ hB _ (by omega)]; omega) ?_
          refine OW.nil ?_
          refine hK36 _ _ ?_
          refine CW.region ?_
          refine OW.q rfl rfl (yq_move rfl (by (conv => lhs; whnf) <;> rfl)) ?_
          refine OW.q rfl rfl (yq_add rfl (by (conv => lhs; whnf) <;> rfl) (by (conv => lhs; whnf) <;> rfl) (by omega)) ?_
          refine OW.q rfl rfl (yq_assign rfl (by (conv => lhs; whnf) <;> rfl)) ?_
          refine OW.nil ?_
          exact ⟨i + 1, ⟨Has.mk ⟨(by (conv => lhs; whnf) <;> rfl), (by (conv => lhs; whnf) <;> rfl), (by (conv => lhs; whnf) <;> rfl), (by (conv => lhs; whnf) <;> rfl), trivial⟩, by omega, rfl⟩, by omega⟩
        · have hi32 : i = 32 := by omega
          clear hi hc13 eI
          subst hi32
          refine CW.exit ?_
          refine then_exit ?_
          refine then_exit ?_
          refine blockQ_hit ?_
          refine hK32 _ _ ?_
          refine CW.seq_k fun K37 hK37 => ?_
          refine CW.region ?_
          refine OW.q rfl rfl (yq_loadW (cs := outI B 32) rfl (by (conv => lhs; whnf) <;> rfl) (by rw [outI_length _ hB _ (Nat.le_refl _)]; exact ti25) (List.mem_cons_self ..)) ?_
          refine OW.store' rfl rfl rfl (by (conv => lhs; whnf) <;> rfl) (by (conv => lhs; whnf) <;> rfl) (vs := outI B 32) (by rw [outI_length _ hB _ (Nat.le_refl _)]; exact ti25) rfl (by rw [outI_full _ hB]; exact bc_one _) (.tail (.tail .head)) (spl_all _ _ (by rw [outI_length _ hB _ (Nat.le_refl _), hc_length])) (by rw [outI_length _ hB _ (Nat.le_refl _), hc_length]; decide) ?_
          refine OW.nil ?_
          refine hK37 _ _ ?_
          refine CW.ret ?_
          -- ret (ret)
          refine fin1 (Or.inr rfl) rfl (rv_cell (cs := outI B 32) (by decide) (by (conv => lhs; whnf) <;> rfl) (by rw [outI_length _ hB _ (Nat.le_refl _)]; exact ti25) (List.mem_cons_of_mem _ (List.mem_cons_of_mem _ (List.mem_cons_self ..)))) (fun w hw => ⟨?_, hw.sub (by simp)⟩)
          rw [HV, hsha, outI_full _ hB]

end Go.Proofs.YtahdekllphehkaaDoor
