/- How long is waited; no statement of the seat is proved here. -/
import Derived.Test.YtahdekllphehkaaEn
import Derived.Test.YtahdekllphehkaaTy
import Derived.Test.YtahdekllphehkaaS1
set_option linter.unusedVariables false
set_option linter.unusedSimpArgs false
namespace Go.Proofs.Ytahdekllphehkaa
open Go.WL Go.Spec

theorem shl_wrap {k : Nat} (h : k ≤ 20) : IntKind.i64.wrap ((1 : Int) * 2 ^ min k IntKind.i64.bits) = 2 ^ k := by
  have hc : k = 0 ∨ k = 1 ∨ k = 2 ∨ k = 3 ∨ k = 4 ∨ k = 5 ∨ k = 6 ∨ k = 7 ∨ k = 8 ∨ k = 9 ∨ k = 10 ∨ k = 11 ∨ k = 12 ∨ k = 13 ∨ k = 14 ∨ k = 15 ∨ k = 16 ∨ k = 17 ∨ k = 18 ∨ k = 19 ∨ k = 20 := by omega
  rcases hc with rfl | rfl | rfl | rfl | rfl | rfl | rfl | rfl | rfl | rfl | rfl | rfl | rfl | rfl | rfl | rfl | rfl | rfl | rfl | rfl | rfl <;> decide +kernel
theorem base_min {t : Int} (h : 1 ≤ t) : (if (32 : Int) < 2 ^ (if (20 : Int) < t - 1 then (20 : Int) else t - 1).toNat then (32 : Int) else 2 ^ (if (20 : Int) < t - 1 then (20 : Int) else t - 1).toNat) = baseP t := by
  by_cases h2 : 20 < t - 1
  · rw [if_pos h2, baseP_big (by omega)]; decide +kernel
  · rw [if_neg h2]; exact baseP_shift h (by omega)

set_option maxRecDepth 100000 in
set_option maxHeartbeats 1000000 in
theorem base_calls (t : Int) (w : World) (h1 : -9223372036854775808 ≤ t) (h2 : t ≤ 9223372036854775807) :
    Calls Try.prog 8 #[.int .i64 t] w fun e w' => e = .returned (.int .i64 (baseP t)) ∧ Cl w [] [] w' := by
  refine calls_of_CW (L := []) Try.func8 rfl (Nat.le_of_ble_eq_true rfl) (Cl.refl _) ?_
  refine CW.seq_k fun K1 hK1 => ?_
  refine CW.region ?_
  refine OW.q rfl rfl (yq_assign rfl (by (conv => lhs; whnf) <;> rfl)) ?_
  refine OW.nil ?_
  refine hK1 _ _ ?_
  refine CW.seq_k fun K2 hK2 => ?_
  refine CW.seq_k fun K3 hK3 => ?_
  refine CW.region ?_
  refine OW.q rfl rfl (yq_move rfl (by (conv => lhs; whnf) <;> rfl)) ?_
  refine OW.q rfl rfl (yq_lss rfl (by (conv => lhs; whnf) <;> rfl) (by (conv => lhs; whnf) <;> rfl)) ?_
  refine OW.nil ?_
  refine hK3 _ _ ?_
  refine CW.cond_dec (by (conv => lhs; whnf) <;> rfl) (fun hc0 => ?_) (fun hc0 => ?_)
  · refine CW.seq_k fun K4 hK4 => ?_
    refine CW.region ?_
    refine OW.q rfl rfl (yq_assign rfl (by (conv => lhs; whnf) <;> rfl)) ?_
    refine OW.nil ?_
    refine hK4 _ _ ?_
    refine CW.ret ?_
    refine then_ret ?_
    -- ret (ret)
    rw [show baseP t = 0 by unfold baseP; rw [if_pos (by assumption)]]
    exact fin1 (Or.inr rfl) rfl ⟨by decide, (by (conv => lhs; whnf) <;> rfl)⟩ (fun w hw => ⟨rfl, hw.sub (List.nil_sublist _)⟩)
  · refine CW.skip ?_
    refine hK2 _ _ ?_
    refine CW.seq_k fun K5 hK5 => ?_
    refine CW.region ?_
    refine OW.q rfl rfl (yq_move rfl (by (conv => lhs; whnf) <;> rfl)) ?_
    refine OW.q rfl rfl (yq_sub rfl (by (conv => lhs; whnf) <;> rfl) (by (conv => lhs; whnf) <;> rfl) (by omega)) ?_
    refine OW.q rfl rfl (yq_min (r := if (20 : Int) < t - 1 then 20 else t - 1) rfl (by (conv => lhs; whnf) <;> rfl) (by (conv => lhs; whnf) <;> rfl) rfl) ?_
    refine OW.q rfl rfl (yq_shl_e (r := (2 : Int) ^ (if (20 : Int) < t - 1 then (20 : Int) else t - 1).toNat) rfl (by (conv => lhs; whnf) <;> rfl) (by (conv => lhs; whnf) <;> rfl) (by split <;> omega) (shl_wrap (by split <;> omega))) ?_
    refine OW.q rfl rfl (yq_min (r := baseP t) rfl (by (conv => lhs; whnf) <;> rfl) (by (conv => lhs; whnf) <;> rfl) (base_min (by omega))) ?_
    refine OW.q rfl rfl (yq_assign rfl (by (conv => lhs; whnf) <;> rfl)) ?_
    refine OW.nil ?_
    refine hK5 _ _ ?_
    refine CW.ret ?_
    -- ret (ret)
    exact fin1 (Or.inr rfl) rfl ⟨by decide, (by (conv => lhs; whnf) <;> rfl)⟩ (fun w hw => ⟨rfl, hw.sub (List.nil_sublist _)⟩)

theorem base_c (t r : Int) (w : World) (h : baseP t = r) (h1 : -9223372036854775808 ≤ t) (h2 : t ≤ 9223372036854775807) :
    Calls Try.prog 8 #[.int .i64 t] w fun e w' => e = .returned (.int .i64 r) ∧ Cl w [] [] w' := h ▸ base_calls t w h1 h2

set_option maxRecDepth 100000 in
set_option maxHeartbeats 1000000 in
theorem gap_calls (t : Int) (d : UInt8) (w : World) (h1 : -9223372036854775808 ≤ t) (h2 : t ≤ 9223372036854775807) :
    Calls Try.prog 10 #[.int .i64 t, U8 d] w fun e w' => e = .returned (.int .i64 (gapP t d.toNat)) ∧ Cl w [] [] w' := by
  have hb := baseP_le t
  have hm0 := Int.emod_nonneg (d.toNat : Int) (show baseP t / 2 + 1 ≠ 0 by omega)
  have hm1 := Int.emod_lt_of_pos (d.toNat : Int) (show 0 < baseP t / 2 + 1 by omega)
  refine calls_of_CW (L := []) Try.func10 rfl (Nat.le_of_ble_eq_true rfl) (Cl.refl _) ?_
  refine CW.seq_k fun K1 hK1 => ?_
  refine CW.region ?_
  refine OW.q rfl rfl (yq_assign rfl (by (conv => lhs; whnf) <;> rfl)) ?_
  refine OW.nil ?_
  refine hK1 _ _ ?_
  refine CW.seq_k fun K2 hK2 => ?_
  refine CW.region ?_
  refine OW.q rfl rfl (yq_move rfl (by (conv => lhs; whnf) <;> rfl)) ?_
  refine OW.q rfl rfl (yq_call rfl rfl (.cons (by (conv => lhs; whnf) <;> rfl) .nil) en8 (fun w hw => base_calls t w h1 h2)) ?_
  refine OW.q rfl rfl (yq_assign rfl (by (conv => lhs; whnf) <;> rfl)) ?_
  refine OW.nil ?_
  refine hK2 _ _ ?_
  refine CW.seq_k fun K3 hK3 => ?_
  refine CW.region ?_
  refine OW.q rfl rfl (yq_move rfl (by (conv => lhs; whnf) <;> rfl)) ?_
  refine OW.q rfl rfl (yq_add rfl (by (conv => lhs; whnf) <;> rfl) (by (conv => lhs; whnf) <;> rfl) (by omega)) ?_
  refine OW.q rfl rfl (yq_quo rfl (by (conv => lhs; whnf) <;> rfl) (by (conv => lhs; whnf) <;> rfl) (by omega)) ?_
  refine OW.q rfl rfl (yq_move rfl (by (conv => lhs; whnf) <;> rfl)) ?_
  refine OW.q rfl rfl (yq_conv_u8_i64 rfl Try.underlying5 Try.underlying3 (by (conv => lhs; whnf) <;> rfl)) ?_
  refine OW.q rfl rfl (yq_move rfl (by (conv => lhs; whnf) <;> rfl)) ?_
  refine OW.q rfl rfl (yq_quo rfl (by (conv => lhs; whnf) <;> rfl) (by (conv => lhs; whnf) <;> rfl) (by omega)) ?_
  refine OW.q rfl rfl (yq_add rfl (by (conv => lhs; whnf) <;> rfl) (by (conv => lhs; whnf) <;> rfl) (by omega)) ?_
  refine OW.q rfl rfl (yq_rem rfl (by (conv => lhs; whnf) <;> rfl) (by (conv => lhs; whnf) <;> rfl) (by omega)) ?_
  refine OW.q rfl rfl (yq_add rfl (by (conv => lhs; whnf) <;> rfl) (by (conv => lhs; whnf) <;> rfl) (by omega)) ?_
  refine OW.q rfl rfl (yq_assign rfl (by (conv => lhs; whnf) <;> rfl)) ?_
  refine OW.nil ?_
  refine hK3 _ _ ?_
  refine CW.ret ?_
  -- ret (ret)
  exact fin1 (Or.inr rfl) rfl ⟨by decide, (by (conv => lhs; whnf) <;> rfl)⟩ (fun w hw => ⟨rfl, hw.sub (List.nil_sublist _)⟩)

theorem gap_c (t r : Int) (d : UInt8) (w : World) (h : gapP t d.toNat = r) (h1 : -9223372036854775808 ≤ t) (h2 : t ≤ 9223372036854775807) :
    Calls Try.prog 10 #[.int .i64 t, U8 d] w fun e w' => e = .returned (.int .i64 r) ∧ Cl w [] [] w' := h ▸ gap_calls t d w h1 h2

set_option maxRecDepth 100000 in
set_option maxHeartbeats 1000000 in
theorem gaps_calls (w : World) : Calls Try.prog 12 #[] w fun e w' => e = .returned (.bool true) ∧ Cl w [] [] w' := by
  refine calls_of_CW (L := []) Try.func12 rfl (Nat.le_of_ble_eq_true rfl) (Cl.refl _) ?_
  refine CW.seq_k fun K1 hK1 => ?_
  refine CW.region ?_
  refine OW.q rfl rfl (yq_assign rfl (by (conv => lhs; whnf) <;> rfl)) ?_
  refine OW.nil ?_
  refine hK1 _ _ ?_
  refine CW.seq_k fun K2 hK2 => ?_
  refine CW.region ?_
  refine OW.q rfl rfl (yq_call rfl rfl (.cons (by (conv => lhs; whnf) <;> rfl) .nil) en8 (fun w hw => base_c 1 1 w (by decide +kernel) (by decide) (by decide))) ?_
  refine OW.q rfl rfl ((yq_eql rfl (by (conv => lhs; whnf) <;> rfl) (by (conv => lhs; whnf) <;> rfl)).to (v' := .bool true) (congrArg Value.bool (by decide +kernel))) ?_
  refine OW.q rfl rfl (yq_move rfl (by (conv => lhs; whnf) <;> rfl)) ?_
  refine OW.q rfl rfl (yq_call rfl rfl (.cons (by (conv => lhs; whnf) <;> rfl) .nil) en8 (fun w hw => base_c 4 8 w (by decide +kernel) (by decide) (by decide))) ?_
  refine OW.q rfl rfl ((yq_eql rfl (by (conv => lhs; whnf) <;> rfl) (by (conv => lhs; whnf) <;> rfl)).to (v' := .bool true) (congrArg Value.bool (by decide +kernel))) ?_
  refine OW.q rfl rfl (yq_pick rfl (by (conv => lhs; whnf) <;> rfl) (by (conv => lhs; whnf) <;> rfl)) ?_
  refine OW.q rfl rfl (yq_move rfl (by (conv => lhs; whnf) <;> rfl)) ?_
  refine OW.q rfl rfl (yq_call rfl rfl (.cons (by (conv => lhs; whnf) <;> rfl) .nil) en8 (fun w hw => base_c 6 32 w (by decide +kernel) (by decide) (by decide))) ?_
  refine OW.q rfl rfl ((yq_eql rfl (by (conv => lhs; whnf) <;> rfl) (by (conv => lhs; whnf) <;> rfl)).to (v' := .bool true) (congrArg Value.bool (by decide +kernel))) ?_
  refine OW.q rfl rfl (yq_pick rfl (by (conv => lhs; whnf) <;> rfl) (by (conv => lhs; whnf) <;> rfl)) ?_
  refine OW.q rfl rfl (yq_move rfl (by (conv => lhs; whnf) <;> rfl)) ?_
  refine OW.q rfl rfl (yq_call rfl rfl (.cons (by (conv => lhs; whnf) <;> rfl) .nil) en8 (fun w hw => base_c 99 32 w (by decide +kernel) (by decide) (by decide))) ?_
  refine OW.q rfl rfl ((yq_eql rfl (by (conv => lhs; whnf) <;> rfl) (by (conv => lhs; whnf) <;> rfl)).to (v' := .bool true) (congrArg Value.bool (by decide +kernel))) ?_
  refine OW.q rfl rfl (yq_pick rfl (by (conv => lhs; whnf) <;> rfl) (by (conv => lhs; whnf) <;> rfl)) ?_
  refine OW.q rfl rfl (yq_move rfl (by (conv => lhs; whnf) <;> rfl)) ?_
  refine OW.q rfl rfl (yq_call rfl rfl (.cons (by (conv => lhs; whnf) <;> rfl) ( .cons (by (conv => lhs; whnf) <;> rfl) .nil)) en10 (fun w hw => gap_c 1 1 (77 : UInt8) w (by decide +kernel) (by decide) (by decide))) ?_
  refine OW.q rfl rfl ((yq_eql rfl (by (conv => lhs; whnf) <;> rfl) (by (conv => lhs; whnf) <;> rfl)).to (v' := .bool true) (congrArg Value.bool (by decide +kernel))) ?_
  refine OW.q rfl rfl (yq_pick rfl (by (conv => lhs; whnf) <;> rfl) (by (conv => lhs; whnf) <;> rfl)) ?_
  refine OW.q rfl rfl (yq_move rfl (by (conv => lhs; whnf) <;> rfl)) ?_
  refine OW.q rfl rfl (yq_call rfl rfl (.cons (by (conv => lhs; whnf) <;> rfl) ( .cons (by (conv => lhs; whnf) <;> rfl) .nil)) en10 (fun w hw => gap_c 4 4 (0 : UInt8) w (by decide +kernel) (by decide) (by decide))) ?_
  refine OW.q rfl rfl ((yq_eql rfl (by (conv => lhs; whnf) <;> rfl) (by (conv => lhs; whnf) <;> rfl)).to (v' := .bool true) (congrArg Value.bool (by decide +kernel))) ?_
  refine OW.q rfl rfl (yq_pick rfl (by (conv => lhs; whnf) <;> rfl) (by (conv => lhs; whnf) <;> rfl)) ?_
  refine OW.q rfl rfl (yq_move rfl (by (conv => lhs; whnf) <;> rfl)) ?_
  refine OW.q rfl rfl (yq_call rfl rfl (.cons (by (conv => lhs; whnf) <;> rfl) ( .cons (by (conv => lhs; whnf) <;> rfl) .nil)) en10 (fun w hw => gap_c 4 8 (4 : UInt8) w (by decide +kernel) (by decide) (by decide))) ?_
  refine OW.q rfl rfl ((yq_eql rfl (by (conv => lhs; whnf) <;> rfl) (by (conv => lhs; whnf) <;> rfl)).to (v' := .bool true) (congrArg Value.bool (by decide +kernel))) ?_
  refine OW.q rfl rfl (yq_pick rfl (by (conv => lhs; whnf) <;> rfl) (by (conv => lhs; whnf) <;> rfl)) ?_
  refine OW.q rfl rfl (yq_move rfl (by (conv => lhs; whnf) <;> rfl)) ?_
  refine OW.q rfl rfl (yq_call rfl rfl (.cons (by (conv => lhs; whnf) <;> rfl) ( .cons (by (conv => lhs; whnf) <;> rfl) .nil)) en10 (fun w hw => gap_c 4 4 (5 : UInt8) w (by decide +kernel) (by decide) (by decide))) ?_
  refine OW.q rfl rfl ((yq_eql rfl (by (conv => lhs; whnf) <;> rfl) (by (conv => lhs; whnf) <;> rfl)).to (v' := .bool true) (congrArg Value.bool (by decide +kernel))) ?_
  refine OW.q rfl rfl (yq_pick rfl (by (conv => lhs; whnf) <;> rfl) (by (conv => lhs; whnf) <;> rfl)) ?_
  refine OW.q rfl rfl (yq_assign rfl (by (conv => lhs; whnf) <;> rfl)) ?_
  refine OW.nil ?_
  refine hK2 _ _ ?_
  refine CW.ret ?_
  -- ret (ret)
  exact fin1 (Or.inr rfl) rfl ⟨by decide, (by (conv => lhs; whnf) <;> rfl)⟩ (fun w hw => ⟨rfl, hw.sub (List.nil_sublist _)⟩)

/-- Which lengths some draw below a number has. -/
def hitB (t : Int) (i j : Nat) : Bool := (List.range i).any fun d => gapP t (d : Nat) == (j : Int)
def marks (t : Int) (B i : Nat) : List Value := (List.range (B + 1)).map fun j => .bool (hitB t i j)
theorem marks_length (t : Int) (B i : Nat) : (marks t B i).length = B + 1 := by simp [marks]
theorem marks_zero (t : Int) (B : Nat) : List.replicate (B + 1) (Value.bool false) = marks t B 0 := by
  apply List.ext_getElem
  · simp [marks]
  · intro j h1 h2
    simp [marks, hitB]
theorem spl_one {cs : List Value} {k : Nat} {v : Value} (h : k < cs.length) : spl cs k [v] = cs.set k v := by
  rw [List.set_eq_take_append_cons_drop, if_pos h]
  unfold spl
  simp
theorem hit_step (t : Int) (i j : Nat) : hitB t (i + 1) j = (hitB t i j || (gapP t i == (j : Int))) := by
  unfold hitB
  rw [List.range_succ, List.any_append, List.any_cons, List.any_nil, Bool.or_false]
theorem marks_step {t : Int} {B i g : Nat} (hg : gapP t i = g) (h : g ≤ B) : spl (marks t B i) g [.bool true] = marks t B (i + 1) := by
  rw [spl_one (by rw [marks_length]; omega)]
  apply List.ext_getElem
  · simp [marks]
  · intro j h1 h2
    simp only [marks, List.getElem_set, List.getElem_map, List.getElem_range, hit_step, hg]
    by_cases e : g = j
    · subst e; simp
    · rw [if_neg e]
      have : ((g : Int) == (j : Int)) = false := by simp; omega
      rw [this, Bool.or_false]
theorem marks_get {t : Int} {B i g : Nat} (h : g ≤ B) (hh : hitB t i g = true) : (marks t B i)[g]? = some (.bool true) := by
  rw [List.getElem?_eq_getElem (by rw [marks_length]; omega)]
  simp [marks, hh]
theorem hit_all {t : Int} {g : Nat} (h : 1 ≤ t) (h1 : (baseP t + 1) / 2 ≤ g) (h2 : (g : Int) ≤ baseP t) : hitB t 256 g = true := by
  obtain ⟨a, b, c⟩ := gapP_hit h h1 h2
  unfold hitB
  rw [List.any_eq_true]
  refine ⟨((g : Int) - (baseP t + 1) / 2).toNat, List.mem_range.2 (by omega), ?_⟩
  rw [beq_iff_eq, show (((g : Int) - (baseP t + 1) / 2).toNat : Int) = (g : Int) - (baseP t + 1) / 2 by omega]
  exact c
theorem u8_nat {i : Nat} (h : i < 256) : ((UInt8.ofNat (i : Int).toNat).toNat : Int) = (i : Int) := by
  rw [Int.toNat_natCast, UInt8.toNat_ofNat', Nat.mod_eq_of_lt h]

set_option maxRecDepth 100000 in
set_option maxHeartbeats 1000000 in
theorem backoffBounds_calls (x : UInt8) (w : World) : Calls Try.prog 4 #[U8 x] w fun e w' => e = .returned (.bool true) ∧ Cl w [] [] w' := by
  have hx := x.toNat_lt
  obtain ⟨t, ht⟩ : ∃ t : Int, t = 1 + (x.toNat : Int) := ⟨_, rfl⟩
  have ht1 : 1 ≤ t := by omega
  have hb0 := baseP_le t
  have hb1 := baseP_pos ht1
  have hb2 := baseP_mono t
  obtain ⟨B, hB⟩ : ∃ B : Nat, baseP t = (B : Int) := ⟨(baseP t).toNat, by omega⟩
  refine calls_of_CW (L := []) Try.func4 rfl (Nat.le_of_ble_eq_true rfl) (Cl.refl _) ?_
  refine CW.seq_k fun K1 hK1 => ?_
  refine CW.region ?_
  refine OW.q rfl rfl (yq_assign rfl (by (conv => lhs; whnf) <;> rfl)) ?_
  refine OW.nil ?_
  refine hK1 _ _ ?_
  refine CW.seq_k fun K2 hK2 => ?_
  refine CW.region ?_
  refine OW.q rfl rfl (yq_move rfl (by (conv => lhs; whnf) <;> rfl)) ?_
  refine OW.q rfl rfl (yq_conv_u8_i64 rfl Try.underlying5 Try.underlying3 (by (conv => lhs; whnf) <;> rfl)) ?_
  refine OW.q rfl rfl (yq_add_e (r := t) rfl (by (conv => lhs; whnf) <;> rfl) (by (conv => lhs; whnf) <;> rfl) (by rw [wrap64_in (by omega)]; omega)) ?_
  refine OW.q rfl rfl (yq_assign rfl (by (conv => lhs; whnf) <;> rfl)) ?_
  refine OW.nil ?_
  refine hK2 _ _ ?_
  refine CW.seq_k fun K3 hK3 => ?_
  refine CW.region ?_
  refine OW.q rfl rfl (yq_move rfl (by (conv => lhs; whnf) <;> rfl)) ?_
  refine OW.q rfl rfl (yq_call rfl rfl (.cons (by (conv => lhs; whnf) <;> rfl) .nil) en8 (fun w hw => base_c t B w hB (by omega) (by omega))) ?_
  refine OW.q rfl rfl (yq_assign rfl (by (conv => lhs; whnf) <;> rfl)) ?_
  refine OW.nil ?_
  refine hK3 _ _ ?_
  refine CW.seq_k fun K4 hK4 => ?_
  refine CW.seq_k fun K5 hK5 => ?_
  refine CW.region ?_
  refine OW.q rfl rfl (yq_move rfl (by (conv => lhs; whnf) <;> rfl)) ?_
  refine OW.qb rfl rfl (yq_lss rfl (by (conv => lhs; whnf) <;> rfl) (by (conv => lhs; whnf) <;> rfl)) (fun b15 hb15 => ?_)
  refine OW.q rfl rfl (yq_move rfl (by (conv => lhs; whnf) <;> rfl)) ?_
  apply OW.segOr 3 [17, 18] 19 hb15
  · intro hb15e
    refine QW.q (by subst hb15e; rfl) rfl (yq_move rfl (by (conv => lhs; whnf) <;> rfl)) ?_
    refine QW.qb (by subst hb15e; rfl) rfl (yq_gtr rfl (by (conv => lhs; whnf) <;> rfl) (by (conv => lhs; whnf) <;> rfl)) (fun b18 hb18 => ?_)
    refine QW.q rfl rfl (yq_pick rfl (by (conv => lhs; whnf) <;> rfl) (by subst hb15e; ((conv => lhs; whnf) <;> rfl))) ?_
    exact QW.nil (SegM.mk (any_c (any_c any_n)) (or_run hb15 hb15e hb18))
  · intro hb15e
    refine QW.skip (by subst hb15e; rfl) rfl ?_
    refine QW.skip (by subst hb15e; rfl) rfl ?_
    refine QW.q rfl rfl (yq_pick rfl (by (conv => lhs; whnf) <;> rfl) (by subst hb15e; ((conv => lhs; whnf) <;> rfl))) ?_
    exact QW.nil (SegM.mk (any_c (any_c any_n)) (or_skip hb15 hb15e))
  · intro ρ19 b19 hA hb19
    obtain ⟨x17, x18, rfl⟩ := hA
    refine OW.q rfl rfl (yq_move rfl (by (conv => lhs; whnf) <;> rfl)) ?_
    apply OW.segOr 6 [21, 22, 23, 24, 25] 26 hb19
    · intro hb19e
      refine QW.q (by subst hb19e; rfl) rfl (yq_move rfl (by (conv => lhs; whnf) <;> rfl)) ?_
      refine QW.q (by subst hb19e; rfl) rfl (yq_add rfl (by (conv => lhs; whnf) <;> rfl) (by (conv => lhs; whnf) <;> rfl) (by omega)) ?_
      refine QW.q (by subst hb19e; rfl) rfl (yq_call rfl rfl (.cons (by (conv => lhs; whnf) <;> rfl) .nil) en8 (fun w hw => base_calls (t + 1) w (by omega) (by omega))) ?_
      refine QW.q (by subst hb19e; rfl) rfl (yq_move rfl (by (conv => lhs; whnf) <;> rfl)) ?_
      refine QW.qb (by subst hb19e; rfl) rfl (yq_lss rfl (by (conv => lhs; whnf) <;> rfl) (by (conv => lhs; whnf) <;> rfl)) (fun b25 hb25 => ?_)
      refine QW.q rfl rfl (yq_pick rfl (by (conv => lhs; whnf) <;> rfl) (by subst hb19e; ((conv => lhs; whnf) <;> rfl))) ?_
      exact QW.nil (SegM.mk (any_c (any_c (any_c (any_c (any_c any_n))))) (or_run hb19 hb19e hb25))
    · intro hb19e
      refine QW.skip (by subst hb19e; rfl) rfl ?_
      refine QW.skip (by subst hb19e; rfl) rfl ?_
      refine QW.skip (by subst hb19e; rfl) rfl ?_
      refine QW.skip (by subst hb19e; rfl) rfl ?_
      refine QW.skip (by subst hb19e; rfl) rfl ?_
      refine QW.q rfl rfl (yq_pick rfl (by (conv => lhs; whnf) <;> rfl) (by subst hb19e; ((conv => lhs; whnf) <;> rfl))) ?_
      exact QW.nil (SegM.mk (any_c (any_c (any_c (any_c (any_c any_n))))) (or_skip hb19 hb19e))
    · intro ρ26 b26 hA hb26
      obtain ⟨x21, x22, x23, x24, x25, rfl⟩ := hA
      refine OW.nil ?_
      refine hK5 _ _ ?_
      refine CW.condq (by (conv => lhs; whnf) <;> rfl) hb26 (fun hc0 => ?_) (fun hc0 => ?_)
      · exfalso; omega
      · refine CW.skip ?_
        refine hK4 _ _ ?_
        refine CW.seq_k fun K6 hK6 => ?_
        refine CW.region ?_
        refine OW.q rfl rfl (yq_move rfl (by (conv => lhs; whnf) <;> rfl)) ?_
        refine OW.q rfl rfl (yq_add rfl (by (conv => lhs; whnf) <;> rfl) (by (conv => lhs; whnf) <;> rfl) (by omega)) ?_
        refine OW.make rfl rfl rfl (by (conv => lhs; whnf) <;> rfl) (by (conv => lhs; whnf) <;> rfl) ts26 ti4 tz4 (by omega) (by omega) (by omega) (cs := marks t B 0) (by rw [Nat.mul_one, show ((B : Int) + 1).toNat = B + 1 by omega, made_one]; exact marks_zero t B) (fun b5 => ?_)
        refine OW.q rfl rfl (yq_assign rfl (by (conv => lhs; whnf) <;> rfl)) ?_
        refine OW.nil ?_
        refine hK6 _ _ ?_
        refine CW.seq_k fun K7 hK7 => ?_
        refine CW.seq_k fun K8 hK8 => ?_
        refine CW.region ?_
        refine OW.q rfl rfl (yq_assign rfl (by (conv => lhs; whnf) <;> rfl)) ?_
        refine OW.nil ?_
        refine hK8 _ _ ?_
        refine CW.block ?_
        refine CW.loop (σ := Nat) (fun i ρ L => Has ρ [(3, .int .i64 t), (4, .int .i64 (B : Int)), (5, .slice (some ⟨b5, 0, none⟩) ((B : Int) + 1).toNat ((B : Int) + 1).toNat), (6, .int .i64 (i : Int))] ∧ i ≤ 256 ∧ L = [.blk b5 (marks t B i) 4 (0, 0)]) (fun i => 256 - i) (0) ?_ ?_
        · exact ⟨Has.mk ⟨(by (conv => lhs; whnf) <;> rfl), (by (conv => lhs; whnf) <;> rfl), (by (conv => lhs; whnf) <;> rfl), (by (conv => lhs; whnf) <;> rfl), trivial⟩, by omega, rfl⟩
        · rintro i _ _ ⟨⟨ρ', rfl⟩, hi, rfl⟩
          refine CW.seq_k fun K9 hK9 => ?_
          refine CW.seq_k fun K10 hK10 => ?_
          refine CW.region ?_
          refine OW.q rfl rfl (yq_move rfl (by (conv => lhs; whnf) <;> rfl)) ?_
          refine OW.q rfl rfl (yq_lss rfl (by (conv => lhs; whnf) <;> rfl) (by (conv => lhs; whnf) <;> rfl)) ?_
          refine OW.nil ?_
          refine hK10 _ _ ?_
          refine CW.cond_dec (by (conv => lhs; whnf) <;> rfl) (fun hc2 => ?_) (fun hc2 => ?_)
          · have hlt : i < 256 := by omega
            have hgi := @gapP_in t (i : Int) ht1
            obtain ⟨g, hg⟩ : ∃ g : Nat, gapP t (i : Int) = (g : Int) := ⟨(gapP t i).toNat, by omega⟩
            have hgB : g ≤ B := by omega
            refine CW.skip ?_
            refine hK9 _ _ ?_
            refine CW.seq_k fun K11 hK11 => ?_
            refine CW.block ?_
            refine CW.seq_k fun K12 hK12 => ?_
            refine CW.region ?_
            refine OW.q rfl rfl (yq_move rfl (by (conv => lhs; whnf) <;> rfl)) ?_
            refine OW.q rfl rfl (yq_move rfl (by (conv => lhs; whnf) <;> rfl)) ?_
            refine OW.q rfl rfl (yq_conv_i64_u8 rfl Try.underlying3 Try.underlying5 (by (conv => lhs; whnf) <;> rfl) (by omega)) ?_
            refine OW.q rfl rfl (yq_call rfl rfl (.cons (by (conv => lhs; whnf) <;> rfl) ( .cons (by (conv => lhs; whnf) <;> rfl) .nil)) en10 (fun w hw => gap_c t g _ w (by rw [u8_nat hlt]; exact hg) (by omega) (by omega))) ?_
            refine OW.q rfl rfl (yq_assign rfl (by (conv => lhs; whnf) <;> rfl)) ?_
            refine OW.nil ?_
            refine hK12 _ _ ?_
            refine CW.seq_k fun K13 hK13 => ?_
            refine CW.seq_k fun K14 hK14 => ?_
            refine CW.region ?_
            refine OW.q rfl rfl (yq_move rfl (by (conv => lhs; whnf) <;> rfl)) ?_
            refine OW.q rfl rfl (yq_move rfl (by (conv => lhs; whnf) <;> rfl)) ?_
            refine OW.q rfl rfl (yq_add rfl (by (conv => lhs; whnf) <;> rfl) (by (conv => lhs; whnf) <;> rfl) (by omega)) ?_
            refine OW.q rfl rfl (yq_quo rfl (by (conv => lhs; whnf) <;> rfl) (by (conv => lhs; whnf) <;> rfl) (by omega)) ?_
            refine OW.qb rfl rfl (yq_lss rfl (by (conv => lhs; whnf) <;> rfl) (by (conv => lhs; whnf) <;> rfl)) (fun b42 hb42 => ?_)
            refine OW.q rfl rfl (yq_move rfl (by (conv => lhs; whnf) <;> rfl)) ?_
            apply OW.segOr 4 [44, 45, 46] 47 hb42
            · intro hb42e
              refine QW.q (by subst hb42e; rfl) rfl (yq_move rfl (by (conv => lhs; whnf) <;> rfl)) ?_
              refine QW.q (by subst hb42e; rfl) rfl (yq_move rfl (by (conv => lhs; whnf) <;> rfl)) ?_
              refine QW.qb (by subst hb42e; rfl) rfl (yq_gtr rfl (by (conv => lhs; whnf) <;> rfl) (by (conv => lhs; whnf) <;> rfl)) (fun b46 hb46 => ?_)
              refine QW.q rfl rfl (yq_pick rfl (by (conv => lhs; whnf) <;> rfl) (by subst hb42e; ((conv => lhs; whnf) <;> rfl))) ?_
              exact QW.nil (SegM.mk (any_c (any_c (any_c any_n))) (or_run hb42 hb42e hb46))
            · intro hb42e
              refine QW.skip (by subst hb42e; rfl) rfl ?_
              refine QW.skip (by subst hb42e; rfl) rfl ?_
              refine QW.skip (by subst hb42e; rfl) rfl ?_
              refine QW.q rfl rfl (yq_pick rfl (by (conv => lhs; whnf) <;> rfl) (by subst hb42e; ((conv => lhs; whnf) <;> rfl))) ?_
              exact QW.nil (SegM.mk (any_c (any_c (any_c any_n))) (or_skip hb42 hb42e))
            · intro ρ47 b47 hA hb47
              obtain ⟨x44, x45, x46, rfl⟩ := hA
              refine OW.nil ?_
              refine hK14 _ _ ?_
              refine CW.condq (by (conv => lhs; whnf) <;> rfl) hb47 (fun hc4 => ?_) (fun hc4 => ?_)
              · exfalso; omega
              · refine CW.skip ?_
                refine hK13 _ _ ?_
                refine CW.region ?_
                refine OW.q rfl rfl (yq_move rfl (by (conv => lhs; whnf) <;> rfl)) ?_
                refine OW.q rfl rfl (yq_move rfl (by (conv => lhs; whnf) <;> rfl)) ?_
                refine OW.q rfl rfl (yq_index_slice rfl (by (conv => lhs; whnf) <;> rfl) (by (conv => lhs; whnf) <;> rfl) ts26 ti4 (by omega) (by omega)) ?_
                rw [show 0 + (g : Int).toNat * 1 = g by omega]
                refine OW.store' rfl rfl rfl (by (conv => lhs; whnf) <;> rfl) (by (conv => lhs; whnf) <;> rfl) (vs := [.bool true]) ti4 rfl (by intro u hu; rw [List.mem_singleton.1 hu]; rfl) .head (marks_step hg hgB) (by rw [marks_length]; simp; omega) ?_
                refine OW.nil ?_
                refine hK11 _ _ ?_
                refine CW.region ?_
                refine OW.q rfl rfl (yq_move rfl (by (conv => lhs; whnf) <;> rfl)) ?_
                refine OW.q rfl rfl (yq_add rfl (by (conv => lhs; whnf) <;> rfl) (by (conv => lhs; whnf) <;> rfl) (by omega)) ?_
                refine OW.q rfl rfl (yq_assign rfl (by (conv => lhs; whnf) <;> rfl)) ?_
                refine OW.nil ?_
                exact ⟨i + 1, ⟨Has.mk ⟨(by (conv => lhs; whnf) <;> rfl), (by (conv => lhs; whnf) <;> rfl), (by (conv => lhs; whnf) <;> rfl), (by (conv => lhs; whnf) <;> rfl), trivial⟩, by omega, rfl⟩, by omega⟩
          · have hi256 : i = 256 := by omega
            subst hi256
            refine CW.exit ?_
            refine then_exit ?_
            refine then_exit ?_
            refine blockQ_hit ?_
            refine hK7 _ _ ?_
            refine CW.seq_k fun K15 hK15 => ?_
            refine CW.seq_k fun K16 hK16 => ?_
            refine CW.region ?_
            refine OW.q rfl rfl (yq_move rfl (by (conv => lhs; whnf) <;> rfl)) ?_
            refine OW.q rfl rfl (yq_add rfl (by (conv => lhs; whnf) <;> rfl) (by (conv => lhs; whnf) <;> rfl) (by omega)) ?_
            refine OW.q rfl rfl (yq_quo_e (r := (((B + 1) / 2 : Nat) : Int)) rfl (by (conv => lhs; whnf) <;> rfl) (by (conv => lhs; whnf) <;> rfl) (by decide) (by rw [Int.tdiv_eq_ediv_of_nonneg (by omega), wrap64_in (by omega)]; omega)) ?_
            refine OW.q rfl rfl (yq_assign rfl (by (conv => lhs; whnf) <;> rfl)) ?_
            refine OW.nil ?_
            refine hK16 _ _ ?_
            refine CW.block ?_
            refine CW.loop (σ := Nat) (fun g ρ L => Has ρ [(3, .int .i64 t), (4, .int .i64 (B : Int)), (5, .slice (some ⟨b5, 0, none⟩) ((B : Int) + 1).toNat ((B : Int) + 1).toNat), (8, .int .i64 (g : Int))] ∧ (B + 1) / 2 ≤ g ∧ g ≤ B + 1 ∧ L = [.blk b5 (marks t B 256) 4 (0, 0)]) (fun g => B + 1 - g) ((B + 1) / 2) ?_ ?_
            · exact ⟨Has.mk ⟨(by (conv => lhs; whnf) <;> rfl), (by (conv => lhs; whnf) <;> rfl), (by (conv => lhs; whnf) <;> rfl), (by (conv => lhs; whnf) <;> rfl), trivial⟩, by omega, by omega, rfl⟩
            · rintro g _ _ ⟨⟨ρ', rfl⟩, hg1, hg2, rfl⟩
              refine CW.seq_k fun K17 hK17 => ?_
              refine CW.seq_k fun K18 hK18 => ?_
              refine CW.region ?_
              refine OW.q rfl rfl (yq_move rfl (by (conv => lhs; whnf) <;> rfl)) ?_
              refine OW.q rfl rfl (yq_move rfl (by (conv => lhs; whnf) <;> rfl)) ?_
              refine OW.q rfl rfl (yq_leq rfl (by (conv => lhs; whnf) <;> rfl) (by (conv => lhs; whnf) <;> rfl)) ?_
              refine OW.nil ?_
              refine hK18 _ _ ?_
              refine CW.cond_dec (by (conv => lhs; whnf) <;> rfl) (fun hc6 => ?_) (fun hc6 => ?_)
              · have hgB : g ≤ B := by omega
                have hh := @hit_all t g ht1 (by omega) (by omega)
                refine CW.skip ?_
                refine hK17 _ _ ?_
                refine CW.seq_k fun K19 hK19 => ?_
                refine CW.block ?_
                refine CW.seq_k fun K20 hK20 => ?_
                refine CW.region ?_
                refine OW.q rfl rfl (yq_move rfl (by (conv => lhs; whnf) <;> rfl)) ?_
                refine OW.q rfl rfl (yq_move rfl (by (conv => lhs; whnf) <;> rfl)) ?_
                refine OW.q rfl rfl (yq_index_slice rfl (by (conv => lhs; whnf) <;> rfl) (by (conv => lhs; whnf) <;> rfl) ts26 ti4 (by omega) (by omega)) ?_
                rw [show 0 + (g : Int).toNat * 1 = g by omega]
                refine OW.q rfl rfl (yq_load1 (v := .bool true) rfl (by (conv => lhs; whnf) <;> rfl) ti4 (by repeat' first | exact List.mem_cons_self .. | apply List.mem_cons_of_mem) (marks_get hgB hh)) ?_
                refine OW.q rfl rfl (yq_not rfl (by (conv => lhs; whnf) <;> rfl)) ?_
                refine OW.nil ?_
                refine hK20 _ _ ?_
                refine CW.cond_f (by (conv => lhs; whnf) <;> rfl) ?_
                refine CW.skip ?_
                refine hK19 _ _ ?_
                refine CW.region ?_
                refine OW.q rfl rfl (yq_move rfl (by (conv => lhs; whnf) <;> rfl)) ?_
                refine OW.q rfl rfl (yq_add rfl (by (conv => lhs; whnf) <;> rfl) (by (conv => lhs; whnf) <;> rfl) (by omega)) ?_
                refine OW.q rfl rfl (yq_assign rfl (by (conv => lhs; whnf) <;> rfl)) ?_
                refine OW.nil ?_
                exact ⟨g + 1, ⟨Has.mk ⟨(by (conv => lhs; whnf) <;> rfl), (by (conv => lhs; whnf) <;> rfl), (by (conv => lhs; whnf) <;> rfl), (by (conv => lhs; whnf) <;> rfl), trivial⟩, by omega, by omega, rfl⟩, by omega⟩
              · refine CW.exit ?_
                refine then_exit ?_
                refine then_exit ?_
                refine blockQ_hit ?_
                refine hK15 _ _ ?_
                refine CW.seq_k fun K21 hK21 => ?_
                refine CW.region ?_
                refine OW.q rfl rfl (yq_call rfl rfl .nil en12 (fun w hw => gaps_calls w)) ?_
                refine OW.q rfl rfl (yq_assign rfl (by (conv => lhs; whnf) <;> rfl)) ?_
                refine OW.nil ?_
                refine hK21 _ _ ?_
                refine CW.ret ?_
                -- ret (ret)
                exact fin1 (Or.inr rfl) rfl ⟨by decide, (by (conv => lhs; whnf) <;> rfl)⟩ (fun w hw => ⟨rfl, hw.sub (List.nil_sublist _)⟩)

end Go.Proofs.Ytahdekllphehkaa
