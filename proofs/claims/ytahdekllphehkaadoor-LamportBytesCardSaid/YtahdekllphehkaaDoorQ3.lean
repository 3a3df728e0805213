/- What is taken off bytes; what stands for a key; no statement of the seat is proved here. -/
import Derived.Test.YtahdekllphehkaaDoorQ2
set_option linter.unusedVariables false
set_option linter.unusedSimpArgs false
namespace Go.Proofs.YtahdekllphehkaaDoor
open Go.WL Go.Spec

def takeV (s : Bytes) (n : Nat) : Value := if s.length < n then .tuple #[.string (bs []), .string (bs []), .bool false] else .tuple #[.string (bs (s.take n)), .string (bs (s.drop n)), .bool true]
theorem takeV_short {s : Bytes} {n : Nat} (h : s.length < n) : takeV s n = .tuple #[.string (bs []), .string (bs []), .bool false] := if_pos h
theorem takeV_long {s : Bytes} {n : Nat} (h : n ≤ s.length) : takeV s n = .tuple #[.string (bs (s.take n)), .string (bs (s.drop n)), .bool true] := if_neg (by omega)

set_option maxRecDepth 100000 in
set_option maxHeartbeats 1000000 in
theorem take_calls (s : Bytes) (x : UInt64) (w : World) (hs : s.length ≤ 9223372036854775807) :
    Calls Tryd.prog 151 #[.string (bs s), U64 x] w fun e w' => e = .returned (takeV s x.toNat) ∧ Cl w [] [] w' := by
  have hx := x.toNat_lt
  have hl : (UInt64.ofNat s.length).toNat = s.length := by rw [UInt64.toNat_ofNat']; omega
  refine calls_of_CW (L := []) Tryd.func151 rfl (Nat.le_of_ble_eq_true rfl) (Cl.refl _) ?_
  refine CW.seq_k fun K1 hK1 => ?_
  refine CW.region ?_
  refine OW.q rfl rfl (yq_assign rfl (by (conv => lhs; whnf) <;> rfl)) ?_
  refine OW.q rfl rfl (yq_assign rfl (by (conv => lhs; whnf) <;> rfl)) ?_
  refine OW.q rfl rfl (yq_assign rfl (by (conv => lhs; whnf) <;> rfl)) ?_
  refine OW.nil ?_
  refine hK1 _ _ ?_
  refine CW.seq_k fun K2 hK2 => ?_
  refine CW.seq_k fun K3 hK3 => ?_
  refine CW.region ?_
  refine OW.q rfl rfl (yq_move rfl (by (conv => lhs; whnf) <;> rfl)) ?_
  refine OW.q rfl rfl (yq_move rfl (by (conv => lhs; whnf) <;> rfl)) ?_
  refine OW.q rfl rfl (yq_len_bs rfl tt9 (by (conv => lhs; whnf) <;> rfl)) ?_
  refine OW.q rfl rfl ((yq_conv_i64_u64 rfl Tryd.underlying3 Tryd.underlying147 (by (conv => lhs; whnf) <;> rfl) (by omega)).to (v' := U64 (UInt64.ofNat s.length)) (by first | rfl | simp)) ?_
  refine OW.q rfl rfl (yq_gtr rfl (by (conv => lhs; whnf) <;> rfl) (by (conv => lhs; whnf) <;> rfl)) ?_
  refine OW.nil ?_
  refine hK3 _ _ ?_
  refine CW.cond_dec (by (conv => lhs; whnf) <;> rfl) (fun hc0 => ?_) (fun hc0 => ?_)
  · rw [takeV_short (by omega)]
    refine CW.seq_k fun K4 hK4 => ?_
    refine CW.region ?_
    refine OW.q rfl rfl (yq_assign rfl (by (conv => lhs; whnf) <;> rfl)) ?_
    refine OW.q rfl rfl (yq_assign rfl (by (conv => lhs; whnf) <;> rfl)) ?_
    refine OW.q rfl rfl (yq_assign rfl (by (conv => lhs; whnf) <;> rfl)) ?_
    refine OW.nil ?_
    refine hK4 _ _ ?_
    refine CW.ret ?_
    refine then_ret ?_
    -- ret (ret)
    exact fin3 (Or.inr rfl) rfl ⟨by decide, (by (conv => lhs; whnf) <;> rfl)⟩ ⟨by decide, (by (conv => lhs; whnf) <;> rfl)⟩ ⟨by decide, (by (conv => lhs; whnf) <;> rfl)⟩ (fun w hw => ⟨rfl, hw⟩)
  · have hxl : x.toNat ≤ s.length := by omega
    clear hc0
    refine CW.skip ?_
    refine hK2 _ _ ?_
    refine CW.seq_k fun K5 hK5 => ?_
    refine CW.draw mixed (by kernel_rfl) ?_
    refine QW.q rfl rfl (yq_move rfl (by (conv => lhs; whnf) <;> rfl)) ?_
    refine QW.q rfl rfl (yq_move rfl (by (conv => lhs; whnf) <;> rfl)) ?_
    refine QW.q rfl rfl (yq_slice_bs_to (h := x.toNat) rfl (by (conv => lhs; whnf) <;> rfl) tt9 ⟨_, _, (by (conv => lhs; whnf) <;> rfl), by omega, by omega⟩ hxl) ?_
    refine QW.q rfl rfl (yq_move rfl (by (conv => lhs; whnf) <;> rfl)) ?_
    refine QW.q rfl rfl (yq_move rfl (by (conv => lhs; whnf) <;> rfl)) ?_
    refine QW.q rfl rfl (yq_slice_bs_from (l := x.toNat) rfl (by (conv => lhs; whnf) <;> rfl) tt9 ⟨_, _, (by (conv => lhs; whnf) <;> rfl), by omega, by omega⟩ hxl) ?_
    refine QW.q rfl rfl (yq_assign rfl (by (conv => lhs; whnf) <;> rfl)) ?_
    refine QW.q rfl rfl (yq_assign rfl (by (conv => lhs; whnf) <;> rfl)) ?_
    refine QW.q rfl rfl (yq_assign rfl (by (conv => lhs; whnf) <;> rfl)) ?_
    refine QW.nil ?_
    refine hK5 _ _ ?_
    refine CW.ret ?_
    -- ret (ret)
    rw [takeV_long hxl]
    exact fin3 (Or.inr rfl) rfl ⟨by decide, (by (conv => lhs; whnf) <;> rfl)⟩ ⟨by decide, (by (conv => lhs; whnf) <;> rfl)⟩ ⟨by decide, (by (conv => lhs; whnf) <;> rfl)⟩ (fun w hw => ⟨rfl, hw⟩)

theorem take_short (s : Bytes) (x : UInt64) (w : World) (hs : s.length ≤ 9223372036854775807) (h : s.length < x.toNat) : Calls Tryd.prog 151 #[.string (bs s), U64 x] w fun e w' => e = .returned (.tuple #[.string (bs []), .string (bs []), .bool false]) ∧ Cl w [] [] w' := by
  have := take_calls s x w hs
  rwa [takeV_short h] at this
theorem take_long (s : Bytes) (x : UInt64) (w : World) (hs : s.length ≤ 9223372036854775807) (h : x.toNat ≤ s.length) : Calls Tryd.prog 151 #[.string (bs s), U64 x] w fun e w' => e = .returned (.tuple #[.string (bs (s.take x.toNat)), .string (bs (s.drop x.toNat)), .bool true]) ∧ Cl w [] [] w' := by
  have := take_calls s x w hs
  rwa [takeV_long h] at this
def unhashV (s : Bytes) : Value := if s.length < 32 then .tuple #[HV zeroHash, .string (bs []), .bool false] else .tuple #[HV (toH (s.take 32)), .string (bs (s.drop 32)), .bool true]
theorem unhashV_short {s : Bytes} (h : s.length < 32) : unhashV s = .tuple #[HV zeroHash, .string (bs []), .bool false] := if_pos h
theorem unhashV_long {s : Bytes} (h : 32 ≤ s.length) : unhashV s = .tuple #[HV (toH (s.take 32)), .string (bs (s.drop 32)), .bool true] := if_neg (by omega)
theorem hc_toH {l : Bytes} (h : l.length = 32) : bc l = hc (toH l) := by
  show _ = bc (hb (toH l))
  rw [hb_toH h]
theorem spl_bytes (s : Bytes) (i : Nat) (hi : i < 32) (h32 : 32 ≤ s.length) : spl (bc (s.take i ++ List.replicate (32 - i) 0)) i [U8 (s.getD i 0)] = bc (s.take (i + 1) ++ List.replicate (32 - (i + 1)) 0) := by
  have hl : (bc (s.take i)).length = i := by simp [bc]; omega
  unfold spl
  rw [bc_app, List.take_left' hl, List.take_succ_eq_append_getElem (by omega), show (32 - i) = (32 - (i + 1)) + 1 by omega, List.replicate_succ]
  rw [show i + [U8 (s.getD i 0)].length = i + 1 from rfl, ← List.drop_drop, List.drop_left' hl, List.getD_eq_getElem?_getD, List.getElem?_eq_getElem (by omega)]
  simp only [bc, List.map_append, List.map_cons, List.map_nil, List.append_assoc, Option.getD_some, List.drop_one, List.tail_cons, List.cons_append, List.nil_append]

set_option maxRecDepth 100000 in
set_option maxHeartbeats 1000000 in
theorem unhash_calls (s : Bytes) (w : World) (hs : s.length ≤ 9223372036854775807) :
    Calls Tryd.prog 111 #[.string (bs s)] w fun e w' => e = .returned (unhashV s) ∧ Cl w [] [] w' := by
  refine calls_of_CW (L := []) Tryd.func111 rfl (Nat.le_of_ble_eq_true rfl) (Cl.refl _) ?_
  refine CW.seq_k fun K1 hK1 => ?_
  refine CW.region ?_
  refine OW.alloc rfl rfl rfl tz25 (fun b2 => ?_)
  refine OW.q rfl rfl (yq_assign rfl (by (conv => lhs; whnf) <;> rfl)) ?_
  refine OW.q rfl rfl (yq_assign rfl (by (conv => lhs; whnf) <;> rfl)) ?_
  refine OW.nil ?_
  refine hK1 _ _ ?_
  refine CW.seq_k fun K2 hK2 => ?_
  refine CW.region ?_
  rcases Nat.lt_or_ge s.length 32 with h32 | h32
  · refine OW.q rfl rfl (yq_move rfl (by (conv => lhs; whnf) <;> rfl)) ?_
    refine OW.q rfl rfl (yq_call rfl rfl (.cons (by (conv => lhs; whnf) <;> rfl) ( .cons (by (conv => lhs; whnf) <;> rfl) .nil)) en151 (fun w hw => take_short s 32 w hs h32)) ?_
    refine OW.q rfl rfl (yq_move rfl (by (conv => lhs; whnf) <;> rfl)) ?_
    refine OW.q rfl rfl (yq_extract rfl (by (conv => lhs; whnf) <;> rfl) rfl) ?_
    refine OW.q rfl rfl (yq_extract rfl (by (conv => lhs; whnf) <;> rfl) rfl) ?_
    refine OW.q rfl rfl (yq_extract rfl (by (conv => lhs; whnf) <;> rfl) rfl) ?_
    refine OW.q rfl rfl (yq_assign rfl (by (conv => lhs; whnf) <;> rfl)) ?_
    refine OW.q rfl rfl (yq_assign rfl (by (conv => lhs; whnf) <;> rfl)) ?_
    refine OW.q rfl rfl (yq_assign rfl (by (conv => lhs; whnf) <;> rfl)) ?_
    refine OW.nil ?_
    refine hK2 _ _ ?_
    refine CW.seq_k fun K3 hK3 => ?_
    refine CW.region ?_
    refine OW.q rfl rfl (yq_slice_arr_all (k := 31) rfl (by (conv => lhs; whnf) <;> rfl) ta25 ti5) ?_
    refine OW.q rfl rfl (yq_move rfl (by (conv => lhs; whnf) <;> rfl)) ?_
    refine OW.copy_bs (l := []) rfl rfl rfl (by (conv => lhs; whnf) <;> rfl) (by (conv => lhs; whnf) <;> rfl) ts92 ti5 (by simp) .head (cs' := hc zeroHash) rfl (by rw [hc_length]; simp <;> omega) ?_
    refine OW.nil ?_
    refine hK3 _ _ ?_
    refine CW.seq_k fun K4 hK4 => ?_
    refine CW.region ?_
    refine OW.q rfl rfl (yq_loadH rfl (by (conv => lhs; whnf) <;> rfl) ti25 (by repeat' first | exact List.mem_cons_self .. | apply List.mem_cons_of_mem)) ?_
    refine OW.q rfl rfl (yq_move rfl (by (conv => lhs; whnf) <;> rfl)) ?_
    refine OW.q rfl rfl (yq_move rfl (by (conv => lhs; whnf) <;> rfl)) ?_
    refine OW.storeH rfl rfl rfl (by (conv => lhs; whnf) <;> rfl) (by (conv => lhs; whnf) <;> rfl) ti25 (by repeat' first | exact Put.head | apply Put.tail) (hc_length _) ?_
    refine OW.q rfl rfl (yq_assign rfl (by (conv => lhs; whnf) <;> rfl)) ?_
    refine OW.q rfl rfl (yq_assign rfl (by (conv => lhs; whnf) <;> rfl)) ?_
    refine OW.nil ?_
    refine hK4 _ _ ?_
    refine CW.ret ?_
    -- ret (ret)
    rw [unhashV_short h32]
    exact fin3 (Or.inr rfl) rfl (rv_hash (by decide) (by (conv => lhs; whnf) <;> rfl) ti25 (by repeat' first | exact List.mem_cons_self .. | apply List.mem_cons_of_mem)) ⟨by decide, (by (conv => lhs; whnf) <;> rfl)⟩ ⟨by decide, (by (conv => lhs; whnf) <;> rfl)⟩ (fun w hw => ⟨rfl, hw.sub (List.nil_sublist _)⟩)
  · refine OW.q rfl rfl (yq_move rfl (by (conv => lhs; whnf) <;> rfl)) ?_
    refine OW.q rfl rfl (yq_call rfl rfl (.cons (by (conv => lhs; whnf) <;> rfl) ( .cons (by (conv => lhs; whnf) <;> rfl) .nil)) en151 (fun w hw => take_long s 32 w hs h32)) ?_
    refine OW.q rfl rfl (yq_move rfl (by (conv => lhs; whnf) <;> rfl)) ?_
    refine OW.q rfl rfl (yq_extract rfl (by (conv => lhs; whnf) <;> rfl) rfl) ?_
    refine OW.q rfl rfl (yq_extract rfl (by (conv => lhs; whnf) <;> rfl) rfl) ?_
    refine OW.q rfl rfl (yq_extract rfl (by (conv => lhs; whnf) <;> rfl) rfl) ?_
    refine OW.q rfl rfl (yq_assign rfl (by (conv => lhs; whnf) <;> rfl)) ?_
    refine OW.q rfl rfl (yq_assign rfl (by (conv => lhs; whnf) <;> rfl)) ?_
    refine OW.q rfl rfl (yq_assign rfl (by (conv => lhs; whnf) <;> rfl)) ?_
    refine OW.nil ?_
    refine hK2 _ _ ?_
    refine CW.seq_k fun K5 hK5 => ?_
    refine CW.region ?_
    refine OW.q rfl rfl (yq_slice_arr_all (k := 31) rfl (by (conv => lhs; whnf) <;> rfl) ta25 ti5) ?_
    refine OW.q rfl rfl (yq_move rfl (by (conv => lhs; whnf) <;> rfl)) ?_
    refine OW.copy_bs (l := s.take 32) rfl rfl rfl (by (conv => lhs; whnf) <;> rfl) (by (conv => lhs; whnf) <;> rfl) ts92 ti5 (by simp; omega) .head (cs' := hc (toH (s.take 32))) (by rw [← hc_toH (by simp; omega)]; unfold spl; simp [bc, List.drop_eq_nil_of_le, hc_length] <;> omega) (by rw [hc_length]; simp <;> omega) ?_
    refine OW.nil ?_
    refine hK5 _ _ ?_
    refine CW.seq_k fun K6 hK6 => ?_
    refine CW.region ?_
    refine OW.q rfl rfl (yq_loadH rfl (by (conv => lhs; whnf) <;> rfl) ti25 (by repeat' first | exact List.mem_cons_self .. | apply List.mem_cons_of_mem)) ?_
    refine OW.q rfl rfl (yq_move rfl (by (conv => lhs; whnf) <;> rfl)) ?_
    refine OW.q rfl rfl (yq_move rfl (by (conv => lhs; whnf) <;> rfl)) ?_
    refine OW.storeH rfl rfl rfl (by (conv => lhs; whnf) <;> rfl) (by (conv => lhs; whnf) <;> rfl) ti25 (by repeat' first | exact Put.head | apply Put.tail) (hc_length _) ?_
    refine OW.q rfl rfl (yq_assign rfl (by (conv => lhs; whnf) <;> rfl)) ?_
    refine OW.q rfl rfl (yq_assign rfl (by (conv => lhs; whnf) <;> rfl)) ?_
    refine OW.nil ?_
    refine hK6 _ _ ?_
    refine CW.ret ?_
    -- ret (ret)
    rw [unhashV_long h32]
    exact fin3 (Or.inr rfl) rfl (rv_hash (by decide) (by (conv => lhs; whnf) <;> rfl) ti25 (by repeat' first | exact List.mem_cons_self .. | apply List.mem_cons_of_mem)) ⟨by decide, (by (conv => lhs; whnf) <;> rfl)⟩ ⟨by decide, (by (conv => lhs; whnf) <;> rfl)⟩ (fun w hw => ⟨rfl, hw.sub (List.nil_sublist _)⟩)

set_option maxRecDepth 100000 in
set_option maxHeartbeats 1000000 in
theorem refunhash_calls (s : Bytes) (w : World) (hs : s.length ≤ 9223372036854775807) :
    Calls Tryd.prog 129 #[.string (bs s)] w fun e w' => e = .returned (unhashV s) ∧ Cl w [] [] w' := by
  refine calls_of_CW (L := []) Tryd.func129 rfl (Nat.le_of_ble_eq_true rfl) (Cl.refl _) ?_
  refine CW.seq_k fun K1 hK1 => ?_
  refine CW.region ?_
  refine OW.alloc rfl rfl rfl tz25 (fun b2 => ?_)
  refine OW.q rfl rfl (yq_assign rfl (by (conv => lhs; whnf) <;> rfl)) ?_
  refine OW.q rfl rfl (yq_assign rfl (by (conv => lhs; whnf) <;> rfl)) ?_
  refine OW.nil ?_
  refine hK1 _ _ ?_
  refine CW.seq_k fun K2 hK2 => ?_
  refine CW.region ?_
  refine OW.alloc rfl rfl rfl tz25 (fun b5 => ?_)
  refine OW.nil ?_
  refine hK2 _ _ ?_
  refine CW.seq_k fun K3 hK3 => ?_
  refine CW.seq_k fun K4 hK4 => ?_
  refine CW.region ?_
  refine OW.q rfl rfl (yq_move rfl (by (conv => lhs; whnf) <;> rfl)) ?_
  refine OW.q rfl rfl (yq_len_bs rfl tt9 (by (conv => lhs; whnf) <;> rfl)) ?_
  refine OW.q rfl rfl (yq_lss rfl (by (conv => lhs; whnf) <;> rfl) (by (conv => lhs; whnf) <;> rfl)) ?_
  refine OW.nil ?_
  refine hK4 _ _ ?_
  refine CW.cond_dec (by (conv => lhs; whnf) <;> rfl) (fun hc0 => ?_) (fun hc0 => ?_)
  · have h32 : s.length < 32 := by omega
    refine CW.seq_k fun K5 hK5 => ?_
    refine CW.region ?_
    refine OW.q rfl rfl (yq_loadH rfl (by (conv => lhs; whnf) <;> rfl) ti25 (by repeat' first | exact List.mem_cons_self .. | apply List.mem_cons_of_mem)) ?_
    refine OW.storeH rfl rfl rfl (by (conv => lhs; whnf) <;> rfl) (by (conv => lhs; whnf) <;> rfl) ti25 (by repeat' first | exact Put.head | apply Put.tail) (hc_length _) ?_
    refine OW.q rfl rfl (yq_assign rfl (by (conv => lhs; whnf) <;> rfl)) ?_
    refine OW.q rfl rfl (yq_assign rfl (by (conv => lhs; whnf) <;> rfl)) ?_
    refine OW.nil ?_
    refine hK5 _ _ ?_
    refine CW.ret ?_
    refine then_ret ?_
    -- ret (ret)
    rw [unhashV_short h32]
    exact fin3 (Or.inr rfl) rfl (rv_hash (by decide) (by (conv => lhs; whnf) <;> rfl) ti25 (by repeat' first | exact List.mem_cons_self .. | apply List.mem_cons_of_mem)) ⟨by decide, (by (conv => lhs; whnf) <;> rfl)⟩ ⟨by decide, (by (conv => lhs; whnf) <;> rfl)⟩ (fun w hw => ⟨rfl, hw.sub (List.nil_sublist _)⟩)
  · have h32 : 32 ≤ s.length := by omega
    clear hc0
    refine CW.skip ?_
    refine hK3 _ _ ?_
    refine CW.seq_k fun K6 hK6 => ?_
    refine CW.seq_k fun K7 hK7 => ?_
    refine CW.region ?_
    refine OW.q rfl rfl (yq_assign rfl (by (conv => lhs; whnf) <;> rfl)) ?_
    refine OW.nil ?_
    refine hK7 _ _ ?_
    refine CW.block ?_
    refine CW.loop (σ := Nat) (fun i ρ L => Has ρ [(0, .string (bs s)), (2, .pointer (some ⟨b2, 0, none⟩)), (5, .pointer (some ⟨b5, 0, none⟩)), (6, .int .i64 (i : Int))] ∧ i ≤ 32 ∧ L = [.blk b5 (bc (s.take i ++ List.replicate (32 - i) 0)) 25 (0, 0), .blk b2 (hc zeroHash) 25 (0, 0)]) (fun i => 32 - i) (0) ?_ ?_
    · exact ⟨Has.mk ⟨(by (conv => lhs; whnf) <;> rfl), (by (conv => lhs; whnf) <;> rfl), (by (conv => lhs; whnf) <;> rfl), (by (conv => lhs; whnf) <;> rfl), trivial⟩, by omega, rfl⟩
    · rintro i _ _ ⟨⟨ρ', rfl⟩, hi, rfl⟩
      refine CW.seq_k fun K8 hK8 => ?_
      refine CW.seq_k fun K9 hK9 => ?_
      refine CW.region ?_
      refine OW.q rfl rfl (yq_move rfl (by (conv => lhs; whnf) <;> rfl)) ?_
      refine OW.q rfl rfl (yq_lss rfl (by (conv => lhs; whnf) <;> rfl) (by (conv => lhs; whnf) <;> rfl)) ?_
      refine OW.nil ?_
      refine hK9 _ _ ?_
      refine CW.cond_dec (by (conv => lhs; whnf) <;> rfl) (fun hc2 => ?_) (fun hc2 => ?_)
      · have hlt : i < 32 := by omega
        refine CW.skip ?_
        refine hK8 _ _ ?_
        refine CW.seq_k fun K10 hK10 => ?_
        refine CW.block ?_
        refine CW.region ?_
        refine OW.q rfl rfl (yq_move rfl (by (conv => lhs; whnf) <;> rfl)) ?_
        refine OW.q rfl rfl (yq_move rfl (by (conv => lhs; whnf) <;> rfl)) ?_
        refine OW.q rfl rfl (yq_move rfl (by (conv => lhs; whnf) <;> rfl)) ?_
        refine OW.q rfl rfl (yq_index_bs (c := s.getD i 0) rfl (by (conv => lhs; whnf) <;> rfl) (by (conv => lhs; whnf) <;> rfl) tt9 (by omega) (by rw [Int.toNat_natCast, List.getD_eq_getElem?_getD, List.getElem?_eq_getElem (by omega)]; rfl)) ?_
        refine OW.q rfl rfl (yq_index_arr rfl (by (conv => lhs; whnf) <;> rfl) (by (conv => lhs; whnf) <;> rfl) ta25 ti5 (by omega) (by omega)) ?_
        refine OW.store' rfl rfl rfl (by (conv => lhs; whnf) <;> rfl) (by (conv => lhs; whnf) <;> rfl) (vs := [U8 (s.getD i 0)]) ti5 rfl (by simp; rfl) .head (cs' := bc (s.take (i + 1) ++ List.replicate (32 - (i + 1)) 0)) (by rw [Nat.zero_add, Int.toNat_natCast, Nat.mul_one]; exact spl_bytes s i hlt h32) (by simp [bc]; omega) ?_
        refine OW.nil ?_
        refine hK10 _ _ ?_
        refine CW.region ?_
        refine OW.q rfl rfl (yq_move rfl (by (conv => lhs; whnf) <;> rfl)) ?_
        refine OW.q rfl rfl (yq_add rfl (by (conv => lhs; whnf) <;> rfl) (by (conv => lhs; whnf) <;> rfl) (by omega)) ?_
        refine OW.q rfl rfl (yq_assign rfl (by (conv => lhs; whnf) <;> rfl)) ?_
        refine OW.nil ?_
        exact ⟨i + 1, ⟨Has.mk ⟨(by (conv => lhs; whnf) <;> rfl), (by (conv => lhs; whnf) <;> rfl), (by (conv => lhs; whnf) <;> rfl), (by (conv => lhs; whnf) <;> rfl), trivial⟩, by omega, rfl⟩, by omega⟩
      · have hj5 : i = 32 := by omega
        subst hj5
        refine CW.exit ?_
        refine then_exit ?_
        refine then_exit ?_
        refine blockQ_hit ?_
        refine hK6 _ _ ?_
        refine CW.seq_k fun K11 hK11 => ?_
        rw [Nat.sub_self, List.replicate_zero, List.append_nil, hc_toH (l := s.take 32) (by simp; omega)]
        refine CW.held ([.blk b5 (hc (toH (s.take 32))) 25 (0, 0)]) mixed ?_
        refine HW.take 0 rfl (by kernel_rfl) (by kernel_rfl) (by kernel_rfl) rfl rfl (by repeat' first | exact List.Sublist.refl _ | exact List.nil_sublist _ | apply List.Sublist.cons_cons | apply List.Sublist.cons) (yv_of_yq rfl (yq_loadH rfl (by (conv => lhs; whnf) <;> rfl) ti25 (by repeat' first | exact List.mem_cons_self .. | apply List.mem_cons_of_mem))) ?_
        refine HW.take 1 rfl (by kernel_rfl) (by kernel_rfl) (by kernel_rfl) rfl rfl (by repeat' first | exact List.Sublist.refl _ | exact List.nil_sublist _ | apply List.Sublist.cons_cons | apply List.Sublist.cons) (yv_of_yq rfl (yq_move rfl (by (conv => lhs; whnf) <;> rfl))) ?_
        refine HW.take 2 rfl (by kernel_rfl) (by kernel_rfl) (by kernel_rfl) rfl rfl (by repeat' first | exact List.Sublist.refl _ | exact List.nil_sublist _ | apply List.Sublist.cons_cons | apply List.Sublist.cons) (yv_of_yq rfl (yq_slice_bs_from (l := 32) rfl (by (conv => lhs; whnf) <;> rfl) tt9 ⟨_, _, (by (conv => lhs; whnf) <;> rfl), by omega, by rfl⟩ h32)) ?_
        refine HW.one 3 (by kernel_rfl) rfl ?_
        refine OW.storeH rfl rfl rfl (by (conv => lhs; whnf) <;> rfl) (by (conv => lhs; whnf) <;> rfl) ti25 (by repeat' first | exact Put.head | apply Put.tail) (hc_length _) ?_
        refine OW.nil ⟨rfl, (by repeat' first | exact List.Sublist.refl _ | exact List.nil_sublist _ | apply List.Sublist.cons_cons | apply List.Sublist.cons), ?_⟩
        refine HW.take 4 rfl (by kernel_rfl) (by kernel_rfl) (by kernel_rfl) rfl rfl (by repeat' first | exact List.Sublist.refl _ | exact List.nil_sublist _ | apply List.Sublist.cons_cons | apply List.Sublist.cons) (yv_of_yq rfl (yq_assign rfl (by (conv => lhs; whnf) <;> rfl))) ?_
        refine HW.take 5 rfl (by kernel_rfl) (by kernel_rfl) (by kernel_rfl) rfl rfl (by repeat' first | exact List.Sublist.refl _ | exact List.nil_sublist _ | apply List.Sublist.cons_cons | apply List.Sublist.cons) (yv_of_yq rfl (yq_assign rfl (by (conv => lhs; whnf) <;> rfl))) ?_
        refine HW.done (by kernel_rfl) ?_
        refine hK11 _ _ ?_
        refine CW.ret ?_
        -- ret (ret)
        rw [unhashV_long h32]
        exact fin3 (Or.inr rfl) rfl (rv_hash (by decide) (by (conv => lhs; whnf) <;> rfl) ti25 (by repeat' first | exact List.mem_cons_self .. | apply List.mem_cons_of_mem)) ⟨by decide, (by (conv => lhs; whnf) <;> rfl)⟩ ⟨by decide, (by (conv => lhs; whnf) <;> rfl)⟩ (fun w hw => ⟨rfl, hw.sub (List.nil_sublist _)⟩)

def leafT (l : List Hash) (j : Nat) : Bytes := [4] ++ (l.take j).flatMap hb
theorem leafT_length (l : List Hash) (j : Nat) (h : j ≤ l.length) : (leafT l j).length = 1 + 32 * j := by
  unfold leafT
  rw [List.length_append, flatHb_length, List.length_take, Nat.min_eq_left h]; rfl
theorem leafT_succ (l : List Hash) (j : Nat) (h : j < l.length) : leafT l (j + 1) = leafT l j ++ hb (l.getD j zeroHash) := by
  unfold leafT
  rw [List.take_succ_eq_append_getElem h, List.flatMap_append, List.flatMap_singleton, List.append_assoc, List.getD_eq_getElem?_getD, List.getElem?_eq_getElem h]; rfl
theorem leafT_all (l : List Hash) (h : l.length = 512) : keyLeaf l = sha (leafT l 512) := by
  rw [keyLeaf_eq, if_pos h]; unfold leafT; rw [List.take_of_length_le (by omega)]

set_option maxRecDepth 100000 in
set_option maxHeartbeats 1000000 in
theorem keyleaf_calls (v : Value) (l : List Hash) (w : World) (hs : HsAt w v l) (hg : GL w) :
    Calls Tryd.prog 60 #[v] w fun e w' => e = .returned (HV (keyLeaf l)) ∧ Cl w [] [] w' := by
  have hs0 := hs
  obtain ⟨a0, cap0, rfl⟩ := hs0.len
  refine calls_of_CW (L := []) Tryd.func60 rfl (Nat.le_of_ble_eq_true rfl) (Cl.refl _) ?_
  refine CW.seq_k fun K1 hK1 => ?_
  refine CW.region ?_
  refine OW.alloc rfl rfl rfl tz25 (fun b2 => ?_)
  refine OW.nil ?_
  refine hK1 _ _ ?_
  refine CW.seq_k fun K2 hK2 => ?_
  refine CW.seq_k fun K3 hK3 => ?_
  refine CW.region ?_
  refine OW.q rfl rfl (yq_move rfl (by (conv => lhs; whnf) <;> rfl)) ?_
  refine OW.q rfl rfl (yq_len_slice rfl ts22 (by (conv => lhs; whnf) <;> rfl)) ?_
  refine OW.q rfl rfl (yq_neq rfl (by (conv => lhs; whnf) <;> rfl) (by (conv => lhs; whnf) <;> rfl)) ?_
  refine OW.nil ?_
  refine hK3 _ _ ?_
  refine CW.cond_dec (by (conv => lhs; whnf) <;> rfl) (fun hc0 => ?_) (fun hc0 => ?_)
  · refine CW.seq_k fun K4 hK4 => ?_
    refine CW.region ?_
    refine OW.q rfl rfl (yq_build (parts := []) (pv := []) (cs := hc zeroHash) rfl rfl (by kernel_rfl)) ?_
    refine OW.storeH rfl rfl rfl (by (conv => lhs; whnf) <;> rfl) (by (conv => lhs; whnf) <;> rfl) ti25 (by repeat' first | exact Put.head | apply Put.tail) (hc_length _) ?_
    refine OW.nil ?_
    refine hK4 _ _ ?_
    refine CW.ret ?_
    refine then_ret ?_
    -- ret (ret)
    rw [keyLeaf_eq, if_neg (by omega)]
    exact fin1 (Or.inr rfl) rfl (rv_hash (by decide) (by (conv => lhs; whnf) <;> rfl) ti25 (by repeat' first | exact List.mem_cons_self .. | apply List.mem_cons_of_mem)) (fun w hw => ⟨rfl, hw.sub (List.nil_sublist _)⟩)
  · have hl : l.length = 512 := by omega
    obtain ⟨b, off, cp, hv, hcp⟩ := hs.place (fun e => by subst e; simp at hl)
    rw [Value.slice.injEq] at hv
    obtain ⟨rfl, _, rfl⟩ := hv
    refine CW.skip ?_
    refine hK2 _ _ ?_
    refine CW.seq_k fun K5 hK5 => ?_
    refine CW.region ?_
    refine OW.nilrow 5 1 ?_
    refine OW.alloc rfl rfl rfl tz170 (fun b3 => ?_)
    refine OW.nil ?_
    refine hK5 _ _ ?_
    refine CW.seq_k fun K6 hK6 => ?_
    refine CW.region ?_
    refine OW.callB rfl rfl rfl (by (conv => lhs; whnf) <;> rfl) (.cons (by (conv => lhs; whnf) <;> rfl) (.cons (by (conv => lhs; whnf) <;> rfl) .nil)) en130 (fun w1 hw1 => wbyte_calls b3 (.pointer none) none 0 0 [] 4 (.inl rfl) (by omega) hw1) ?_
    rintro _ _ ⟨rfl, a1, c1, rfl⟩
    refine OW.nil ?_
    refine hK6 _ _ ?_
    refine CW.seq_k fun K7 hK7 => ?_
    refine CW.seq_k fun K8 hK8 => ?_
    refine CW.region ?_
    refine OW.q rfl rfl (yq_move rfl (by (conv => lhs; whnf) <;> rfl)) ?_
    refine OW.q rfl rfl (yq_len_slice rfl ts22 (by (conv => lhs; whnf) <;> rfl)) ?_
    refine OW.q rfl rfl (yq_move rfl (by (conv => lhs; whnf) <;> rfl)) ?_
    refine OW.nil ?_
    refine hK8 _ _ ?_
    refine CW.block ?_
    refine CW.loop (σ := Nat) (fun j ρ L => ∃ a cap, Has ρ [(2, .pointer (some ⟨b2, 0, none⟩)), (3, selfP b3), (11, .slice (some ⟨b, off, none⟩) l.length cap0), (12, .int .i64 (l.length : Int)), (13, .int .i64 (j : Int))] ∧ j ≤ 512 ∧ L = [.blk b3 [selfP b3, rowV a (leafT l j).length cap] 170 (0, 0), .row a cap (leafT l j).length 5 1 (bc (leafT l j)), .blk b2 (hc zeroHash) 25 (0, 0)]) (fun j => 512 - j) (0) ?_ ?_
    · exact ⟨a1, c1, Has.mk ⟨(by (conv => lhs; whnf) <;> rfl), (by (conv => lhs; whnf) <;> rfl), (by (conv => lhs; whnf) <;> rfl), (by (conv => lhs; whnf) <;> rfl), (by (conv => lhs; whnf) <;> rfl), trivial⟩, by omega, rfl⟩
    · rintro j _ _ ⟨a, cap, ⟨ρ', rfl⟩, hj, rfl⟩
      have hlen := leafT_length l j (by omega)
      refine CW.seq_k fun K9 hK9 => ?_
      refine CW.region ?_
      refine OW.q rfl rfl (yq_lss rfl (by (conv => lhs; whnf) <;> rfl) (by (conv => lhs; whnf) <;> rfl)) ?_
      refine OW.nil ?_
      refine hK9 _ _ ?_
      refine CW.seq_k fun K10 hK10 => ?_
      refine CW.cond_dec (by (conv => lhs; whnf) <;> rfl) (fun hc2 => ?_) (fun hc2 => ?_)
      · have hlt : j < 512 := by omega
        refine CW.skip ?_
        refine hK10 _ _ ?_
        refine CW.seq_k fun K11 hK11 => ?_
        refine CW.block ?_
        refine CW.seq_k fun K12 hK12 => ?_
        refine CW.region ?_
        refine OW.q rfl rfl (yq_index_slice rfl (by (conv => lhs; whnf) <;> rfl) (by (conv => lhs; whnf) <;> rfl) ts22 ti25 (by omega) (by omega)) ?_
        refine OW.q rfl rfl (yq_load_hs (i := j) (v := l.getD j zeroHash) rfl (by (conv => lhs; whnf) <;> rfl) ti25 (fun w hw => hs.mono hw) (at_of_lt (by omega))) ?_
        refine OW.alloc rfl rfl rfl tz25 (fun b5 => ?_)
        refine OW.storeH rfl rfl rfl (by (conv => lhs; whnf) <;> rfl) (by (conv => lhs; whnf) <;> rfl) ti25 (by repeat' first | exact Put.head | apply Put.tail) (hc_length _) ?_
        refine OW.nil ?_
        refine hK12 _ _ ?_
        refine CW.region ?_
        refine OW.q rfl rfl (yq_loadH (v := l.getD j zeroHash) rfl (by (conv => lhs; whnf) <;> rfl) ti25 (by repeat' first | exact List.mem_cons_self .. | apply List.mem_cons_of_mem)) ?_
        refine OW.drop (List.sublist_cons_self _ _) ?_
        refine OW.q rfl rfl (yq_call rfl rfl (.cons (by (conv => lhs; whnf) <;> rfl) .nil) en103 (fun w hw => hash_calls _ w)) ?_
        refine OW.callB rfl rfl rfl (by (conv => lhs; whnf) <;> rfl) (.cons (by (conv => lhs; whnf) <;> rfl) (.cons (by (conv => lhs; whnf) <;> rfl) .nil)) en122 (fun w1 hw1 => wstr_calls b3 (selfP b3) a cap (leafT l j).length (bc (leafT l j)) (hb (l.getD j zeroHash)) (.inr rfl) (by rw [hb_length]; omega) hw1) ?_
        rintro _ _ ⟨rfl, a1, c1, rfl⟩
        refine OW.nil ?_
        refine hK11 _ _ ?_
        refine CW.region ?_
        refine OW.q rfl rfl (yq_add rfl (by (conv => lhs; whnf) <;> rfl) (by (conv => lhs; whnf) <;> rfl) (by omega)) ?_
        refine OW.q rfl rfl (yq_move rfl (by (conv => lhs; whnf) <;> rfl)) ?_
        refine OW.nil ?_
        refine ⟨j + 1, ⟨a1, c1, Has.mk ⟨(by (conv => lhs; whnf) <;> rfl), (by (conv => lhs; whnf) <;> rfl), (by (conv => lhs; whnf) <;> rfl), (by (conv => lhs; whnf) <;> rfl), (by (conv => lhs; whnf) <;> rfl), trivial⟩, by omega, ?_⟩, by omega⟩
        rw [leafT_succ l j (by omega), List.length_append, bc_app]; rfl
      · have hj5 : j = 512 := by omega
        subst hj5
        refine CW.exit ?_
        refine then_exit ?_
        refine then_exit ?_
        refine blockQ_hit ?_
        refine hK7 _ _ ?_
        refine CW.seq_k fun K13 hK13 => ?_
        refine CW.know _ (know_row (k := (leafT l 512).length) (by repeat' first | exact List.mem_cons_self .. | apply List.mem_cons_of_mem) (by omega)) ?_
        rintro ⟨g, rfl⟩
        refine CW.region ?_
        refine OW.callB (K := fun v L1 => v = .string (bs (leafT l 512)) ∧ L1 = [.blk b3 [selfP b3, rowV (some g) (leafT l 512).length cap] 170 (0, 0)]) rfl rfl rfl (by (conv => lhs; whnf) <;> rfl) (.cons (by (conv => lhs; whnf) <;> rfl) .nil) en123 (fun w1 hw1 => (bstr_calls b3 g (selfP b3) cap (leafT l 512) (fun e => by rw [e] at hlen; simp at hlen) hw1).mono fun e w' ⟨h1, h2⟩ => ⟨_, _, h1, h2, rfl, rfl⟩) ?_
        rintro _ _ ⟨rfl, rfl⟩
        refine OW.q rfl rfl (yq_call rfl rfl (.cons (by (conv => lhs; whnf) <;> rfl) .nil) en100 (fun w hw => sum_calls _ w (by omega) (Cl_gl0 hw hg))) ?_
        refine OW.storeH rfl rfl rfl (by (conv => lhs; whnf) <;> rfl) (by (conv => lhs; whnf) <;> rfl) ti25 (by repeat' first | exact Put.head | apply Put.tail) (hc_length _) ?_
        refine OW.nil ?_
        refine hK13 _ _ ?_
        refine CW.ret ?_
        -- ret (ret)
        rw [leafT_all l hl]
        exact fin1 (Or.inr rfl) rfl (rv_hash (by decide) (by (conv => lhs; whnf) <;> rfl) ti25 (by repeat' first | exact List.mem_cons_self .. | apply List.mem_cons_of_mem)) (fun w hw => ⟨rfl, hw.sub (List.nil_sublist _)⟩)

set_option maxRecDepth 100000 in
set_option maxHeartbeats 1000000 in
theorem refkeyleaf_calls (v : Value) (l : List Hash) (w : World) (hs : HsAt w v l) :
    Calls Tryd.prog 61 #[v] w fun e w' => e = .returned (HV (keyLeaf l)) ∧ Cl w [] [] w' := by
  have hs0 := hs
  obtain ⟨a0, cap0, rfl⟩ := hs0.len
  refine calls_of_CW (L := []) Tryd.func61 rfl (Nat.le_of_ble_eq_true rfl) (Cl.refl _) ?_
  refine CW.seq_k fun K1 hK1 => ?_
  refine CW.region ?_
  refine OW.alloc rfl rfl rfl tz25 (fun b2 => ?_)
  refine OW.nil ?_
  refine hK1 _ _ ?_
  refine CW.seq_k fun K2 hK2 => ?_
  refine CW.seq_k fun K3 hK3 => ?_
  refine CW.region ?_
  refine OW.q rfl rfl (yq_move rfl (by (conv => lhs; whnf) <;> rfl)) ?_
  refine OW.q rfl rfl (yq_len_slice rfl ts22 (by (conv => lhs; whnf) <;> rfl)) ?_
  refine OW.q rfl rfl (yq_neq rfl (by (conv => lhs; whnf) <;> rfl) (by (conv => lhs; whnf) <;> rfl)) ?_
  refine OW.nil ?_
  refine hK3 _ _ ?_
  refine CW.cond_dec (by (conv => lhs; whnf) <;> rfl) (fun hc0 => ?_) (fun hc0 => ?_)
  · refine CW.seq_k fun K4 hK4 => ?_
    refine CW.region ?_
    refine OW.q rfl rfl (yq_build (parts := []) (pv := []) (cs := hc zeroHash) rfl rfl (by kernel_rfl)) ?_
    refine OW.storeH rfl rfl rfl (by (conv => lhs; whnf) <;> rfl) (by (conv => lhs; whnf) <;> rfl) ti25 (by repeat' first | exact Put.head | apply Put.tail) (hc_length _) ?_
    refine OW.nil ?_
    refine hK4 _ _ ?_
    refine CW.ret ?_
    refine then_ret ?_
    -- ret (ret)
    rw [keyLeaf_eq, if_neg (by omega)]
    exact fin1 (Or.inr rfl) rfl (rv_hash (by decide) (by (conv => lhs; whnf) <;> rfl) ti25 (by repeat' first | exact List.mem_cons_self .. | apply List.mem_cons_of_mem)) (fun w hw => ⟨rfl, hw.sub (List.nil_sublist _)⟩)
  · have hl : l.length = 512 := by omega
    obtain ⟨b, off, cp, hv, hcp⟩ := hs.place (fun e => by subst e; simp at hl)
    rw [Value.slice.injEq] at hv
    obtain ⟨rfl, _, rfl⟩ := hv
    refine CW.skip ?_
    refine hK2 _ _ ?_
    refine CW.seq_k fun K5 hK5 => ?_
    refine CW.region ?_
    refine OW.slicelit (vs := [U8 4]) rfl rfl rfl rfl ts92 ti5 tz5 (by decide) rfl (by decide) (by simp [Value.cells]) (by decide) (cs := [U8 4]) rfl (fun bl => ?_)
    refine OW.toRow (k := 1) (size := 1) .head rfl (by decide) ?_
    refine OW.q rfl rfl (yq_assign rfl (by (conv => lhs; whnf) <;> rfl)) ?_
    refine OW.nil ?_
    refine hK5 _ _ ?_
    refine CW.seq_k fun K6 hK6 => ?_
    refine CW.seq_k fun K7 hK7 => ?_
    refine CW.region ?_
    refine OW.q rfl rfl (yq_assign rfl (by (conv => lhs; whnf) <;> rfl)) ?_
    refine OW.nil ?_
    refine hK7 _ _ ?_
    refine CW.block ?_
    refine CW.loop (σ := Nat) (fun j ρ L => ∃ a cap, Has ρ [(0, .slice (some ⟨b, off, none⟩) l.length cap0), (2, .pointer (some ⟨b2, 0, none⟩)), (3, rowV a (leafT l j).length cap), (4, .int .i64 (j : Int))] ∧ j ≤ 512 ∧ L = [.row a cap (leafT l j).length 5 1 (bc (leafT l j)), .blk b2 (hc zeroHash) 25 (0, 0)]) (fun j => 512 - j) (0) ?_ ?_
    · exact ⟨some bl, 1, Has.mk ⟨(by (conv => lhs; whnf) <;> rfl), (by (conv => lhs; whnf) <;> rfl), (by (conv => lhs; whnf) <;> rfl), (by (conv => lhs; whnf) <;> rfl), trivial⟩, by omega, rfl⟩
    · rintro j _ _ ⟨a, cap, ⟨ρ', rfl⟩, hj, rfl⟩
      have hlen := leafT_length l j (by omega)
      refine CW.seq_k fun K8 hK8 => ?_
      refine CW.seq_k fun K9 hK9 => ?_
      refine CW.region ?_
      refine OW.q rfl rfl (yq_move rfl (by (conv => lhs; whnf) <;> rfl)) ?_
      refine OW.q rfl rfl (yq_lss rfl (by (conv => lhs; whnf) <;> rfl) (by (conv => lhs; whnf) <;> rfl)) ?_
      refine OW.nil ?_
      refine hK9 _ _ ?_
      refine CW.cond_dec (by (conv => lhs; whnf) <;> rfl) (fun hc2 => ?_) (fun hc2 => ?_)
      · have hlt : j < 512 := by omega
        refine CW.skip ?_
        refine hK8 _ _ ?_
        refine CW.seq_k fun K10 hK10 => ?_
        refine CW.block ?_
        refine CW.region ?_
        refine OW.q rfl rfl (yq_move rfl (by (conv => lhs; whnf) <;> rfl)) ?_
        refine OW.q rfl rfl (yq_move rfl (by (conv => lhs; whnf) <;> rfl)) ?_
        refine OW.q rfl rfl (yq_move rfl (by (conv => lhs; whnf) <;> rfl)) ?_
        refine OW.q rfl rfl (yq_index_slice rfl (by (conv => lhs; whnf) <;> rfl) (by (conv => lhs; whnf) <;> rfl) ts22 ti25 (by omega) (by omega)) ?_
        refine OW.q rfl rfl ((yq_slice_arr (k := 32) (l := 0) (h := 32) rfl (by (conv => lhs; whnf) <;> rfl) ta25 ti5 (by rfl) (by rfl) (by decide) (by decide)).to (v' := .slice (some ⟨b, off + j * 32, none⟩) 32 32) (by simp)) ?_
        refine OW.append (news := hc (l.getD j zeroHash)) rfl rfl rfl (by (conv => lhs; whnf) <;> rfl) (by (conv => lhs; whnf) <;> rfl) ts92 ti5 tz5 (by repeat' first | exact Del.head | apply Del.tail) (fun w hw => hsCell (hs.mono hw) j (by omega)) (by rw [hc_length]) (hc_one _) rfl (by decide) (by simp only [maxLen]; omega) (by omega) (fun a' cap' => ?_)
        refine OW.q rfl rfl (yq_assign rfl (by (conv => lhs; whnf) <;> rfl)) ?_
        refine OW.nil ?_
        refine hK10 _ _ ?_
        refine CW.region ?_
        refine OW.q rfl rfl (yq_move rfl (by (conv => lhs; whnf) <;> rfl)) ?_
        refine OW.q rfl rfl (yq_add rfl (by (conv => lhs; whnf) <;> rfl) (by (conv => lhs; whnf) <;> rfl) (by omega)) ?_
        refine OW.q rfl rfl (yq_assign rfl (by (conv => lhs; whnf) <;> rfl)) ?_
        refine OW.nil ?_
        refine ⟨j + 1, ⟨a', cap', Has.mk ⟨(by (conv => lhs; whnf) <;> rfl), (by (conv => lhs; whnf) <;> rfl), by rw [leafT_succ l j (by omega), List.length_append, hb_length]; exact (by (conv => lhs; whnf) <;> rfl), (by (conv => lhs; whnf) <;> rfl), trivial⟩, by omega, ?_⟩, by omega⟩
        rw [leafT_succ l j (by omega), List.length_append, bc_app, hb_length]; rfl
      · have hj5 : j = 512 := by omega
        subst hj5
        refine CW.exit ?_
        refine then_exit ?_
        refine then_exit ?_
        refine blockQ_hit ?_
        refine hK6 _ _ ?_
        refine CW.seq_k fun K11 hK11 => ?_
        refine CW.know _ (know_row (k := (leafT l 512).length) (by repeat' first | exact List.mem_cons_self .. | apply List.mem_cons_of_mem) (by omega)) ?_
        rintro ⟨g, rfl⟩
        refine CW.region ?_
        refine OW.q rfl rfl (yq_move rfl (by (conv => lhs; whnf) <;> rfl)) ?_
        refine OW.q rfl rfl (yq_conv_bytes (l := leafT l 512) rfl ts92 Tryd.underlying5 tt9 (by (conv => lhs; whnf) <;> rfl) rfl (row_cells (by repeat' first | exact List.mem_cons_self .. | apply List.mem_cons_of_mem))) ?_
        refine OW.q rfl rfl (yq_call rfl rfl (.cons (by (conv => lhs; whnf) <;> rfl) .nil) en102 (fun w hw => refsum_calls _ w (by omega))) ?_
        refine OW.storeH rfl rfl rfl (by (conv => lhs; whnf) <;> rfl) (by (conv => lhs; whnf) <;> rfl) ti25 (by repeat' first | exact Put.head | apply Put.tail) (hc_length _) ?_
        refine OW.nil ?_
        refine hK11 _ _ ?_
        refine CW.ret ?_
        -- ret (ret)
        rw [leafT_all l hl]
        exact fin1 (Or.inr rfl) rfl (rv_hash (by decide) (by (conv => lhs; whnf) <;> rfl) ti25 (by repeat' first | exact List.mem_cons_self .. | apply List.mem_cons_of_mem)) (fun w hw => ⟨rfl, hw.sub (List.nil_sublist _)⟩)

end Go.Proofs.YtahdekllphehkaaDoor
