/- Signatures; no statement of the seat is proved here. -/
import Derived.Test.YtahdekllphehkaaDoorQ3
set_option linter.unusedVariables false
set_option linter.unusedSimpArgs false
namespace Go.Proofs.YtahdekllphehkaaDoor
open Go.WL Go.Spec

theorem signA_eq (seed : Bytes) (n : Nat) (d : Bytes) (k : Nat) : signA seed n d k = (List.range k).flatMap fun i => hb (secretN seed n (2 * i + bitB d i)) := by unfold signA; rfl
theorem signO_eq (seed : Bytes) (n : Nat) (d : Bytes) (k : Nat) : signO seed n d k = (List.range k).flatMap fun i => hb (pubL seed n (2 * i + 1 - bitB d i)) := by unfold signO; rfl
theorem signA_zero (seed : Bytes) (n : Nat) (d : Bytes) : signA seed n d 0 = [] := by rw [signA_eq]; rfl
theorem signO_zero (seed : Bytes) (n : Nat) (d : Bytes) : signO seed n d 0 = [] := by rw [signO_eq]; rfl
theorem signA_succ (seed : Bytes) (n : Nat) (d : Bytes) (k : Nat) : signA seed n d (k + 1) = signA seed n d k ++ hb (secretN seed n (2 * k + bitB d k)) := by rw [signA_eq, signA_eq, List.range_succ, List.flatMap_append, List.flatMap_singleton]
theorem signO_succ (seed : Bytes) (n : Nat) (d : Bytes) (k : Nat) : signO seed n d (k + 1) = signO seed n d k ++ hb (pubL seed n (2 * k + 1 - bitB d k)) := by rw [signO_eq, signO_eq, List.range_succ, List.flatMap_append, List.flatMap_singleton]
theorem signB_eq (seed : Bytes) (n : Nat) (d : Bytes) : signB seed n d = signA seed n d 256 ++ signO seed n d 256 := by unfold signB; rfl
def signR (seed : Bytes) (index : Int) (d : Bytes) : Bytes := if index < 0 ∨ 2147483648 ≤ index then [] else signB seed index.toNat d
theorem signR_bad {seed : Bytes} {index : Int} {d : Bytes} (h : index < 0 ∨ 2147483648 ≤ index) : signR seed index d = [] := if_pos h
theorem signR_ok {seed : Bytes} {index : Int} {d : Bytes} (h : ¬ (index < 0 ∨ 2147483648 ≤ index)) : signR seed index d = signB seed index.toNat d := if_neg h
theorem secret_n (seed : Bytes) (n i b : Nat) (w : World) (hs : seed.length ≤ 4294967200) (hg : GL w) (hn : n < 2147483648) (hi : i < 256) (hb : b < 2) :
    Calls Tryd.prog 54 #[.string (bs seed), .int .i64 (n : Int), .int .i64 (i : Int), .int .i64 (b : Int)] w fun e w' => e = .returned (HV (secretN seed n (2 * i + b))) ∧ Cl w [] [] w' := by
  have := secret_calls seed (n : Int) i b w hs hg
  rwa [secretL_in seed n i b hn hi hb] at this
theorem refsecret_n (seed : Bytes) (n i b : Nat) (w : World) (hs : seed.length ≤ 4294967200) (hn : n < 2147483648) (hi : i < 256) (hb : b < 2) :
    Calls Tryd.prog 55 #[.string (bs seed), .int .i64 (n : Int), .int .i64 (i : Int), .int .i64 (b : Int)] w fun e w' => e = .returned (HV (secretN seed n (2 * i + b))) ∧ Cl w [] [] w' := by
  have := refsecret_calls seed (n : Int) i b w hs
  rwa [secretL_in seed n i b hn hi hb] at this

set_option maxRecDepth 100000 in
set_option maxHeartbeats 1000000 in
theorem sign_calls (seed : Bytes) (index : Int) (h : Hash) (w : World) (hs : seed.length ≤ 4294967200) (hg : GL w) :
    Calls Tryd.prog 52 #[.string (bs seed), .int .i64 index, HV h] w fun e w' => e = .returned (.string (bs (signR seed index (hb h)))) ∧ Cl w [] [] w' := by
  refine calls_of_CW (L := []) Tryd.func52 rfl (Nat.le_of_ble_eq_true rfl) (Cl.refl _) ?_
  refine CW.seq_k fun K1 hK1 => ?_
  refine CW.region ?_
  refine OW.box rfl rfl rfl (by (conv => lhs; whnf) <;> rfl) (by rfl) (fun b5 => ?_)
  refine OW.q rfl rfl (yq_assign rfl (by (conv => lhs; whnf) <;> rfl)) ?_
  refine OW.nil ?_
  refine hK1 _ _ ?_
  refine CW.seq_k fun K2 hK2 => ?_
  refine CW.region ?_
  rcases Decidable.em (index < 0 ∨ 2147483648 ≤ index) with hix | hix
  · refine OW.q rfl rfl (yq_move rfl (by (conv => lhs; whnf) <;> rfl)) ?_
    refine OW.q rfl rfl (yq_move rfl (by (conv => lhs; whnf) <;> rfl)) ?_
    refine OW.calln rfl rfl rfl (by (conv => lhs; whnf) <;> rfl) (.cons (by (conv => lhs; whnf) <;> rfl) (.cons (by (conv => lhs; whnf) <;> rfl) .nil)) en59 (fun w hw => public_calls seed index w hs (Cl_gl0 hw hg)) ?_
    rintro _ _ ⟨⟨a, cap, hv, rfl⟩, hnil⟩
    rw [publicR_bad hix] at hv hnil ⊢
    cases hnil rfl
    clear hv
    refine OW.q rfl rfl (yq_assign rfl (by (conv => lhs; whnf) <;> rfl)) ?_
    refine OW.nil ?_
    refine hK2 _ _ ?_
    refine CW.seq_k fun K3 hK3 => ?_
    refine CW.seq_k fun K4 hK4 => ?_
    refine CW.region ?_
    refine OW.q rfl rfl (yq_move rfl (by (conv => lhs; whnf) <;> rfl)) ?_
    refine OW.q rfl rfl ((yq_eql_slnil rfl (by (conv => lhs; whnf) <;> rfl) (by (conv => lhs; whnf) <;> rfl) Tryd.underlying22).to (v' := .bool true) rfl) ?_
    refine OW.nil ?_
    refine hK4 _ _ ?_
    refine CW.cond_t (by (conv => lhs; whnf) <;> rfl) ?_
    refine CW.seq_k fun K5 hK5 => ?_
    refine CW.region ?_
    refine OW.q rfl rfl (yq_assign rfl (by (conv => lhs; whnf) <;> rfl)) ?_
    refine OW.nil ?_
    refine hK5 _ _ ?_
    refine CW.ret ?_
    refine then_ret ?_
    -- ret (ret)
    rw [signR_bad hix]
    exact fin1 (Or.inr rfl) rfl ⟨by decide, (by (conv => lhs; whnf) <;> rfl)⟩ (fun w hw => ⟨rfl, hw.sub (List.nil_sublist _)⟩)
  · refine OW.q rfl rfl (yq_move rfl (by (conv => lhs; whnf) <;> rfl)) ?_
    refine OW.q rfl rfl (yq_move rfl (by (conv => lhs; whnf) <;> rfl)) ?_
    refine OW.calln rfl rfl rfl (by (conv => lhs; whnf) <;> rfl) (.cons (by (conv => lhs; whnf) <;> rfl) (.cons (by (conv => lhs; whnf) <;> rfl) .nil)) en59 (fun w hw => public_calls seed index w hs (Cl_gl0 hw hg)) ?_
    rintro _ _ ⟨⟨a, cap, hv, rfl⟩, hnil⟩
    rw [publicR_ok hix] at hv hnil ⊢
    obtain ⟨n, rfl⟩ : ∃ n : Nat, index = (n : Int) := ⟨index.toNat, by omega⟩
    rw [Int.toNat_natCast] at hv hnil ⊢
    rw [publicL_length] at hv ⊢
    subst hv
    refine OW.know _ (know_row (k := 512) (List.mem_cons_self ..) (by decide)) ?_
    rintro ⟨g, rfl⟩
    refine OW.q rfl rfl (yq_assign rfl (by (conv => lhs; whnf) <;> rfl)) ?_
    refine OW.nil ?_
    refine hK2 _ _ ?_
    refine CW.seq_k fun K6 hK6 => ?_
    refine CW.seq_k fun K7 hK7 => ?_
    refine CW.region ?_
    refine OW.q rfl rfl (yq_move rfl (by (conv => lhs; whnf) <;> rfl)) ?_
    refine OW.q rfl rfl ((yq_eql_slnil rfl (by (conv => lhs; whnf) <;> rfl) (by (conv => lhs; whnf) <;> rfl) Tryd.underlying22).to (v' := .bool false) rfl) ?_
    refine OW.nil ?_
    refine hK7 _ _ ?_
    refine CW.cond_f (by (conv => lhs; whnf) <;> rfl) ?_
    refine CW.skip ?_
    refine hK6 _ _ ?_
    refine CW.seq_k fun K8 hK8 => ?_
    refine CW.region ?_
    refine OW.q rfl rfl (yq_loadH rfl (by (conv => lhs; whnf) <;> rfl) ti25 (by repeat' first | exact List.mem_cons_self .. | apply List.mem_cons_of_mem)) ?_
    refine OW.q rfl rfl (yq_call rfl rfl (.cons (by (conv => lhs; whnf) <;> rfl) .nil) en103 (fun w hw => hash_calls _ w)) ?_
    refine OW.q rfl rfl (yq_assign rfl (by (conv => lhs; whnf) <;> rfl)) ?_
    refine OW.nil ?_
    refine hK8 _ _ ?_
    refine CW.seq_k fun K9 hK9 => ?_
    refine CW.region ?_
    refine OW.nilrow 5 1 ?_
    refine OW.alloc rfl rfl rfl tz170 (fun b10 => ?_)
    refine OW.nilrow 5 1 ?_
    refine OW.alloc rfl rfl rfl tz170 (fun b9 => ?_)
    refine OW.nil ?_
    refine hK9 _ _ ?_
    refine CW.seq_k fun K10 hK10 => ?_
    refine CW.seq_k fun K11 hK11 => ?_
    refine CW.region ?_
    refine OW.q rfl rfl (yq_move rfl (by (conv => lhs; whnf) <;> rfl)) ?_
    refine OW.nil ?_
    refine hK11 _ _ ?_
    refine CW.block ?_
    refine CW.loop (σ := Nat) (fun j ρ L => ∃ p q a1 c1 a2 c2, Has ρ [(0, .string (bs seed)), (1, .int .i64 (n : Int)), (7, .slice (some ⟨g, 0, none⟩) 512 cap), (8, .string (bs (hb h))), (9, selfP b10), (10, selfP b9), (20, .int .i64 (j : Int))] ∧ j ≤ 256 ∧ (p = .pointer none ∨ p = selfP b9) ∧ (q = .pointer none ∨ q = selfP b10) ∧ L = [.blk b9 [p, rowV a1 (signO seed n (hb h) j).length c1] 170 (0, 0), .row a1 c1 (signO seed n (hb h) j).length 5 1 (bc (signO seed n (hb h) j)), .blk b10 [q, rowV a2 (signA seed n (hb h) j).length c2] 170 (0, 0), .row a2 c2 (signA seed n (hb h) j).length 5 1 (bc (signA seed n (hb h) j)), .row (some g) cap 512 25 32 ((publicL seed n).flatMap hc), .blk b5 (hc h) 25 (0, 0)]) (fun j => 256 - j) (0) ?_ ?_
    · refine ⟨.pointer none, .pointer none, none, 0, none, 0, Has.mk ⟨(by (conv => lhs; whnf) <;> rfl), (by (conv => lhs; whnf) <;> rfl), (by (conv => lhs; whnf) <;> rfl), (by (conv => lhs; whnf) <;> rfl), (by (conv => lhs; whnf) <;> rfl), (by (conv => lhs; whnf) <;> rfl), (by (conv => lhs; whnf) <;> rfl), trivial⟩, by omega, .inl rfl, .inl rfl, ?_⟩
      rw [signA_zero, signO_zero]; rfl
    · rintro j _ _ ⟨p, q, a1, c1, a2, c2, ⟨ρ', rfl⟩, hj, hp, hq, rfl⟩
      have hla := signA_length seed n (hb h) j
      have hlo := signO_length seed n (hb h) j
      have hbl := bitB_lt (hb h) j
      refine CW.seq_k fun K12 hK12 => ?_
      refine CW.region ?_
      refine OW.q rfl rfl (yq_lss rfl (by (conv => lhs; whnf) <;> rfl) (by (conv => lhs; whnf) <;> rfl)) ?_
      refine OW.nil ?_
      refine hK12 _ _ ?_
      refine CW.seq_k fun K13 hK13 => ?_
      refine CW.cond_dec (by (conv => lhs; whnf) <;> rfl) (fun hc2 => ?_) (fun hc2 => ?_)
      · have hlt : j < 256 := by omega
        refine CW.skip ?_
        refine hK13 _ _ ?_
        refine CW.seq_k fun K14 hK14 => ?_
        refine CW.block ?_
        refine CW.seq_k fun K15 hK15 => ?_
        refine CW.region ?_
        refine OW.q rfl rfl (yq_move rfl (by (conv => lhs; whnf) <;> rfl)) ?_
        refine OW.q rfl rfl (yq_assign rfl (by (conv => lhs; whnf) <;> rfl)) ?_
        refine OW.nil ?_
        refine hK15 _ _ ?_
        refine CW.seq_k fun K16 hK16 => ?_
        refine CW.region ?_
        refine OW.q rfl rfl (yq_move rfl (by (conv => lhs; whnf) <;> rfl)) ?_
        refine OW.q rfl rfl (yq_move rfl (by (conv => lhs; whnf) <;> rfl)) ?_
        refine OW.q rfl rfl (yq_call rfl rfl (.cons (by (conv => lhs; whnf) <;> rfl) ( .cons (by (conv => lhs; whnf) <;> rfl) .nil)) en121 (fun w hw => bit_calls (hb h) j w (by rw [hb_length]; omega) (by omega))) ?_
        refine OW.q rfl rfl (yq_assign rfl (by (conv => lhs; whnf) <;> rfl)) ?_
        refine OW.nil ?_
        refine hK16 _ _ ?_
        refine CW.seq_k fun K17 hK17 => ?_
        refine CW.perm perm22 ?_
        refine CW.region ?_
        refine OW.q rfl rfl (yq_move rfl (by (conv => lhs; whnf) <;> rfl)) ?_
        refine OW.q rfl rfl (yq_move rfl (by (conv => lhs; whnf) <;> rfl)) ?_
        refine OW.q rfl rfl (yq_move rfl (by (conv => lhs; whnf) <;> rfl)) ?_
        refine OW.q rfl rfl (yq_move rfl (by (conv => lhs; whnf) <;> rfl)) ?_
        refine OW.q rfl rfl (yq_call rfl rfl (.cons (by (conv => lhs; whnf) <;> rfl) ( .cons (by (conv => lhs; whnf) <;> rfl) ( .cons (by (conv => lhs; whnf) <;> rfl) ( .cons (by (conv => lhs; whnf) <;> rfl) .nil)))) en54 (fun w hw => secret_n seed n j _ w hs (Cl_gl0 hw hg) (by omega) hlt (bitB_lt _ _))) ?_
        refine OW.q rfl rfl (yq_call rfl rfl (.cons (by (conv => lhs; whnf) <;> rfl) .nil) en103 (fun w hw => hash_calls _ w)) ?_
        refine OW.callB rfl rfl rfl (by (conv => lhs; whnf) <;> rfl) (.cons (by (conv => lhs; whnf) <;> rfl) (.cons (by (conv => lhs; whnf) <;> rfl) .nil)) en122 (fun w1 hw1 => wstr_calls b10 q a2 c2 (signA seed n (hb h) j).length (bc (signA seed n (hb h) j)) (hb (secretN seed n (2 * j + bitB (hb h) j))) hq (by rw [hb_length]; omega) hw1) ?_
        rintro _ _ ⟨rfl, a2', c2', rfl⟩
        refine OW.nil ?_
        refine hK17 _ _ ?_
        refine CW.perm perm22 ?_
        refine CW.region ?_
        refine OW.q rfl rfl (yq_move rfl (by (conv => lhs; whnf) <;> rfl)) ?_
        refine OW.q rfl rfl (yq_move rfl (by (conv => lhs; whnf) <;> rfl)) ?_
        refine OW.q rfl rfl (yq_mul rfl (by (conv => lhs; whnf) <;> rfl) (by (conv => lhs; whnf) <;> rfl) (by omega)) ?_
        refine OW.q rfl rfl (yq_add rfl (by (conv => lhs; whnf) <;> rfl) (by (conv => lhs; whnf) <;> rfl) (by omega)) ?_
        refine OW.q rfl rfl (yq_move rfl (by (conv => lhs; whnf) <;> rfl)) ?_
        refine OW.q rfl rfl (yq_sub rfl (by (conv => lhs; whnf) <;> rfl) (by (conv => lhs; whnf) <;> rfl) (by omega)) ?_
        refine OW.q rfl rfl ((yq_index_slice rfl (by (conv => lhs; whnf) <;> rfl) (by (conv => lhs; whnf) <;> rfl) ts22 ti25 (by omega) (by omega)).to (v' := .pointer (some ⟨g, 0 + (2 * j + 1 - bitB (hb h) j) * 32, none⟩)) (by rw [show (2 * (j : Int) + 1 - (bitB (hb h) j : Int)).toNat = 2 * j + 1 - bitB (hb h) j by omega])) ?_
        refine OW.q rfl rfl (yq_load_hs (i := 2 * j + 1 - bitB (hb h) j) (v := pubL seed n (2 * j + 1 - bitB (hb h) j)) rfl (by (conv => lhs; whnf) <;> rfl) ti25 (fun w hw => HsAt.row (a := some g) (l := publicL seed n) (publicL_length _ _).symm (hw.own _ (by repeat' first | exact List.mem_cons_self .. | apply List.mem_cons_of_mem))) (by rw [at_of_lt (by rw [publicL_length]; omega), publicL_at _ _ _ (by omega)])) ?_
        refine OW.q rfl rfl (yq_call rfl rfl (.cons (by (conv => lhs; whnf) <;> rfl) .nil) en103 (fun w hw => hash_calls _ w)) ?_
        refine OW.callB rfl rfl rfl (by (conv => lhs; whnf) <;> rfl) (.cons (by (conv => lhs; whnf) <;> rfl) (.cons (by (conv => lhs; whnf) <;> rfl) .nil)) en122 (fun w1 hw1 => wstr_calls b9 p a1 c1 (signO seed n (hb h) j).length (bc (signO seed n (hb h) j)) (hb (pubL seed n (2 * j + 1 - bitB (hb h) j))) hp (by rw [hb_length]; omega) hw1) ?_
        rintro _ _ ⟨rfl, a1', c1', rfl⟩
        refine OW.nil ?_
        refine hK14 _ _ ?_
        refine CW.region ?_
        refine OW.q rfl rfl (yq_add rfl (by (conv => lhs; whnf) <;> rfl) (by (conv => lhs; whnf) <;> rfl) (by omega)) ?_
        refine OW.q rfl rfl (yq_move rfl (by (conv => lhs; whnf) <;> rfl)) ?_
        refine OW.nil ?_
        refine ⟨j + 1, ⟨selfP b9, selfP b10, a1', c1', a2', c2', Has.mk ⟨(by (conv => lhs; whnf) <;> rfl), (by (conv => lhs; whnf) <;> rfl), (by (conv => lhs; whnf) <;> rfl), (by (conv => lhs; whnf) <;> rfl), (by (conv => lhs; whnf) <;> rfl), (by (conv => lhs; whnf) <;> rfl), (by (conv => lhs; whnf) <;> rfl), trivial⟩, by omega, .inr rfl, .inr rfl, ?_⟩, by omega⟩
        rw [signA_succ, signO_succ, List.length_append, List.length_append, bc_app, bc_app]; rfl
      · have hj5 : j = 256 := by omega
        subst hj5
        refine CW.exit ?_
        refine then_exit ?_
        refine then_exit ?_
        refine blockQ_hit ?_
        refine hK10 _ _ ?_
        refine CW.seq_k fun K18 hK18 => ?_
        refine CW.perm perm22 ?_
        refine CW.know _ (know_row (k := (signA seed n (hb h) 256).length) (a := a2) (by repeat' first | exact List.mem_cons_self .. | apply List.mem_cons_of_mem) (by omega)) ?_
        rintro ⟨g2, rfl⟩
        refine CW.know _ (know_row (k := (signO seed n (hb h) 256).length) (a := a1) (by repeat' first | exact List.mem_cons_self .. | apply List.mem_cons_of_mem) (by omega)) ?_
        rintro ⟨g1, rfl⟩
        refine CW.region ?_
        refine OW.callB (K := fun v L1 => v = .string (bs (signA seed n (hb h) 256)) ∧ L1 = [.blk b10 [q, rowV (some g2) (signA seed n (hb h) 256).length c2] 170 (0, 0)]) rfl rfl rfl (by (conv => lhs; whnf) <;> rfl) (.cons (by (conv => lhs; whnf) <;> rfl) .nil) en123 (fun w1 hw1 => (bstr_calls b10 g2 (q) c2 (signA seed n (hb h) 256) (fun e => by have := congrArg List.length e; simp only [signA_length, signO_length, List.length_nil] at this; omega) hw1).mono fun e w' ⟨h1, h2⟩ => ⟨_, _, h1, h2, rfl, rfl⟩) ?_
        rintro _ _ ⟨rfl, rfl⟩
        refine OW.drop (List.sublist_cons_self _ _) ?_
        refine OW.callB (K := fun v L1 => v = .string (bs (signO seed n (hb h) 256)) ∧ L1 = [.blk b9 [p, rowV (some g1) (signO seed n (hb h) 256).length c1] 170 (0, 0)]) rfl rfl rfl (by (conv => lhs; whnf) <;> rfl) (.cons (by (conv => lhs; whnf) <;> rfl) .nil) en123 (fun w1 hw1 => (bstr_calls b9 g1 (p) c1 (signO seed n (hb h) 256) (fun e => by have := congrArg List.length e; simp only [signA_length, signO_length, List.length_nil] at this; omega) hw1).mono fun e w' ⟨h1, h2⟩ => ⟨_, _, h1, h2, rfl, rfl⟩) ?_
        rintro _ _ ⟨rfl, rfl⟩
        refine OW.drop (List.sublist_cons_self _ _) ?_
        refine OW.q rfl rfl (yq_add_bs rfl (by (conv => lhs; whnf) <;> rfl) (by (conv => lhs; whnf) <;> rfl) (by omega)) ?_
        refine OW.q rfl rfl (yq_assign rfl (by (conv => lhs; whnf) <;> rfl)) ?_
        refine OW.nil ?_
        refine hK18 _ _ ?_
        refine CW.ret ?_
        -- ret (ret)
        have hR : signR seed (n : Int) (hb h) = signB seed n (hb h) := signR_ok hix
        rw [hR, signB_eq]
        exact fin1 (Or.inr rfl) rfl ⟨by decide, (by (conv => lhs; whnf) <;> rfl)⟩ (fun w hw => ⟨rfl, hw.sub (List.nil_sublist _)⟩)

set_option maxRecDepth 100000 in
set_option maxHeartbeats 1000000 in
theorem refsign_calls (seed : Bytes) (index : Int) (h : Hash) (w : World) (hs : seed.length ≤ 4294967200) :
    Calls Tryd.prog 53 #[.string (bs seed), .int .i64 index, HV h] w fun e w' => e = .returned (.string (bs (signR seed index (hb h)))) ∧ Cl w [] [] w' := by
  refine calls_of_CW (L := []) Tryd.func53 rfl (Nat.le_of_ble_eq_true rfl) (Cl.refl _) ?_
  refine CW.seq_k fun K1 hK1 => ?_
  refine CW.region ?_
  refine OW.box rfl rfl rfl (by (conv => lhs; whnf) <;> rfl) (by rfl) (fun b5 => ?_)
  refine OW.q rfl rfl (yq_assign rfl (by (conv => lhs; whnf) <;> rfl)) ?_
  refine OW.nil ?_
  refine hK1 _ _ ?_
  refine CW.seq_k fun K2 hK2 => ?_
  refine CW.region ?_
  rcases Decidable.em (index < 0 ∨ 2147483648 ≤ index) with hix | hix
  · refine OW.q rfl rfl (yq_move rfl (by (conv => lhs; whnf) <;> rfl)) ?_
    refine OW.q rfl rfl (yq_move rfl (by (conv => lhs; whnf) <;> rfl)) ?_
    refine OW.calln rfl rfl rfl (by (conv => lhs; whnf) <;> rfl) (.cons (by (conv => lhs; whnf) <;> rfl) (.cons (by (conv => lhs; whnf) <;> rfl) .nil)) en58 (fun w hw => refpublic_calls seed index w hs) ?_
    rintro _ _ ⟨a, cap, rfl, rfl⟩
    rw [publicR_bad hix]
    refine OW.q rfl rfl (yq_assign rfl (by (conv => lhs; whnf) <;> rfl)) ?_
    refine OW.nil ?_
    refine hK2 _ _ ?_
    refine CW.seq_k fun K3 hK3 => ?_
    refine CW.seq_k fun K4 hK4 => ?_
    refine CW.region ?_
    refine OW.q rfl rfl (yq_move rfl (by (conv => lhs; whnf) <;> rfl)) ?_
    refine OW.q rfl rfl (yq_len_slice rfl ts22 (by (conv => lhs; whnf) <;> rfl)) ?_
    refine OW.q rfl rfl ((yq_eql rfl (by (conv => lhs; whnf) <;> rfl) (by (conv => lhs; whnf) <;> rfl)).to (v' := .bool true) rfl) ?_
    refine OW.nil ?_
    refine hK4 _ _ ?_
    refine CW.cond_t (by (conv => lhs; whnf) <;> rfl) ?_
    refine CW.seq_k fun K5 hK5 => ?_
    refine CW.region ?_
    refine OW.q rfl rfl (yq_assign rfl (by (conv => lhs; whnf) <;> rfl)) ?_
    refine OW.nil ?_
    refine hK5 _ _ ?_
    refine CW.ret ?_
    refine then_ret ?_
    -- ret (ret)
    rw [signR_bad hix]
    exact fin1 (Or.inr rfl) rfl ⟨by decide, (by (conv => lhs; whnf) <;> rfl)⟩ (fun w hw => ⟨rfl, hw.sub (List.nil_sublist _)⟩)
  · refine OW.q rfl rfl (yq_move rfl (by (conv => lhs; whnf) <;> rfl)) ?_
    refine OW.q rfl rfl (yq_move rfl (by (conv => lhs; whnf) <;> rfl)) ?_
    refine OW.calln rfl rfl rfl (by (conv => lhs; whnf) <;> rfl) (.cons (by (conv => lhs; whnf) <;> rfl) (.cons (by (conv => lhs; whnf) <;> rfl) .nil)) en58 (fun w hw => refpublic_calls seed index w hs) ?_
    rintro _ _ ⟨a, cap, rfl, rfl⟩
    obtain ⟨n, rfl⟩ : ∃ n : Nat, index = (n : Int) := ⟨index.toNat, by omega⟩
    have hR : publicR seed (n : Int) = publicL seed n := publicR_ok hix
    rw [hR, publicL_length]
    refine OW.know _ (know_row (k := 512) (List.mem_cons_self ..) (by decide)) ?_
    rintro ⟨g, rfl⟩
    refine OW.q rfl rfl (yq_assign rfl (by (conv => lhs; whnf) <;> rfl)) ?_
    refine OW.nil ?_
    refine hK2 _ _ ?_
    refine CW.seq_k fun K6 hK6 => ?_
    refine CW.seq_k fun K7 hK7 => ?_
    refine CW.region ?_
    refine OW.q rfl rfl (yq_move rfl (by (conv => lhs; whnf) <;> rfl)) ?_
    refine OW.q rfl rfl (yq_len_slice rfl ts22 (by (conv => lhs; whnf) <;> rfl)) ?_
    refine OW.q rfl rfl ((yq_eql rfl (by (conv => lhs; whnf) <;> rfl) (by (conv => lhs; whnf) <;> rfl)).to (v' := .bool false) rfl) ?_
    refine OW.nil ?_
    refine hK7 _ _ ?_
    refine CW.cond_f (by (conv => lhs; whnf) <;> rfl) ?_
    refine CW.skip ?_
    refine hK6 _ _ ?_
    refine CW.seq_k fun K8 hK8 => ?_
    refine CW.region ?_
    refine OW.nilrow 5 1 ?_
    refine OW.q rfl rfl (yq_assign rfl (by (conv => lhs; whnf) <;> rfl)) ?_
    refine OW.nilrow 5 1 ?_
    refine OW.q rfl rfl (yq_assign rfl (by (conv => lhs; whnf) <;> rfl)) ?_
    refine OW.nil ?_
    refine hK8 _ _ ?_
    refine CW.seq_k fun K9 hK9 => ?_
    refine CW.seq_k fun K10 hK10 => ?_
    refine CW.region ?_
    refine OW.q rfl rfl (yq_assign rfl (by (conv => lhs; whnf) <;> rfl)) ?_
    refine OW.nil ?_
    refine hK10 _ _ ?_
    refine CW.block ?_
    refine CW.loop (σ := Nat) (fun j ρ L => ∃ a1 c1 a2 c2, Has ρ [(0, .string (bs seed)), (1, .int .i64 (n : Int)), (5, .pointer (some ⟨b5, 0, none⟩)), (7, .slice (some ⟨g, 0, none⟩) 512 cap), (8, rowV a1 (signA seed n (hb h) j).length c1), (9, rowV a2 (signO seed n (hb h) j).length c2), (10, .int .i64 (j : Int))] ∧ j ≤ 256 ∧ L = [.row a1 c1 (signA seed n (hb h) j).length 5 1 (bc (signA seed n (hb h) j)), .row a2 c2 (signO seed n (hb h) j).length 5 1 (bc (signO seed n (hb h) j)), .row (some g) cap 512 25 32 ((publicL seed n).flatMap hc), .blk b5 (hc h) 25 (0, 0)]) (fun j => 256 - j) (0) ?_ ?_
    · refine ⟨none, 0, none, 0, Has.mk ⟨(by (conv => lhs; whnf) <;> rfl), (by (conv => lhs; whnf) <;> rfl), (by (conv => lhs; whnf) <;> rfl), (by (conv => lhs; whnf) <;> rfl), by rw [signA_zero]; exact (by (conv => lhs; whnf) <;> rfl), by rw [signO_zero]; exact (by (conv => lhs; whnf) <;> rfl), (by (conv => lhs; whnf) <;> rfl), trivial⟩, by omega, ?_⟩
      rw [signA_zero, signO_zero]; rfl
    · rintro j _ _ ⟨a1, c1, a2, c2, ⟨ρ', rfl⟩, hj, rfl⟩
      have hla := signA_length seed n (hb h) j
      have hlo := signO_length seed n (hb h) j
      have hbl := bitB_lt (hb h) j
      refine CW.seq_k fun K11 hK11 => ?_
      refine CW.seq_k fun K12 hK12 => ?_
      refine CW.region ?_
      refine OW.q rfl rfl (yq_move rfl (by (conv => lhs; whnf) <;> rfl)) ?_
      refine OW.q rfl rfl (yq_lss rfl (by (conv => lhs; whnf) <;> rfl) (by (conv => lhs; whnf) <;> rfl)) ?_
      refine OW.nil ?_
      refine hK12 _ _ ?_
      refine CW.cond_dec (by (conv => lhs; whnf) <;> rfl) (fun hc2 => ?_) (fun hc2 => ?_)
      · have hlt : j < 256 := by omega
        refine CW.skip ?_
        refine hK11 _ _ ?_
        refine CW.seq_k fun K13 hK13 => ?_
        refine CW.block ?_
        refine CW.seq_k fun K14 hK14 => ?_
        refine CW.region ?_
        refine OW.q rfl rfl (yq_slice_arr_all (k := 31) rfl (by (conv => lhs; whnf) <;> rfl) ta25 ti5) ?_
        refine OW.q rfl rfl (yq_conv_bytes (l := hb h) rfl ts92 Tryd.underlying5 tt9 (by (conv => lhs; whnf) <;> rfl) (hb_length _) (blk_cells (cs := bc (hb h)) (by repeat' first | exact List.mem_cons_self .. | apply List.mem_cons_of_mem))) ?_
        refine OW.q rfl rfl (yq_move rfl (by (conv => lhs; whnf) <;> rfl)) ?_
        refine OW.q rfl rfl (yq_call rfl rfl (.cons (by (conv => lhs; whnf) <;> rfl) ( .cons (by (conv => lhs; whnf) <;> rfl) .nil)) en124 (fun w hw => refbit_calls (hb h) j w (by rw [hb_length]; omega) (by omega))) ?_
        refine OW.q rfl rfl (yq_assign rfl (by (conv => lhs; whnf) <;> rfl)) ?_
        refine OW.nil ?_
        refine hK14 _ _ ?_
        refine CW.seq_k fun K15 hK15 => ?_
        refine CW.region ?_
        refine OW.q rfl rfl (yq_move rfl (by (conv => lhs; whnf) <;> rfl)) ?_
        refine OW.q rfl rfl (yq_move rfl (by (conv => lhs; whnf) <;> rfl)) ?_
        refine OW.q rfl rfl (yq_move rfl (by (conv => lhs; whnf) <;> rfl)) ?_
        refine OW.q rfl rfl (yq_move rfl (by (conv => lhs; whnf) <;> rfl)) ?_
        refine OW.q rfl rfl (yq_call rfl rfl (.cons (by (conv => lhs; whnf) <;> rfl) ( .cons (by (conv => lhs; whnf) <;> rfl) ( .cons (by (conv => lhs; whnf) <;> rfl) ( .cons (by (conv => lhs; whnf) <;> rfl) .nil)))) en55 (fun w hw => refsecret_n seed n j _ w hs (by omega) hlt (bitB_lt _ _))) ?_
        refine OW.alloc rfl rfl rfl tz25 (fun b12 => ?_)
        refine OW.storeH rfl rfl rfl (by (conv => lhs; whnf) <;> rfl) (by (conv => lhs; whnf) <;> rfl) ti25 (by repeat' first | exact Put.head | apply Put.tail) (hc_length _) ?_
        refine OW.nil ?_
        refine hK15 _ _ ?_
        refine CW.held ([]) mixed ?_
        refine HW.take 0 rfl (by kernel_rfl) (by kernel_rfl) (by kernel_rfl) rfl rfl (by repeat' first | exact List.Sublist.refl _ | exact List.nil_sublist _ | apply List.Sublist.cons_cons | apply List.Sublist.cons) (yv_of_yq rfl (yq_move rfl (by (conv => lhs; whnf) <;> rfl))) ?_
        refine HW.take 1 rfl (by kernel_rfl) (by kernel_rfl) (by kernel_rfl) rfl rfl (by repeat' first | exact List.Sublist.refl _ | exact List.nil_sublist _ | apply List.Sublist.cons_cons | apply List.Sublist.cons) (yv_of_yq rfl (yq_slice_arr_all (k := 31) rfl (by (conv => lhs; whnf) <;> rfl) ta25 ti5)) ?_
        refine HW.take 3 rfl (by kernel_rfl) (by kernel_rfl) (by kernel_rfl) rfl rfl (by repeat' first | exact List.Sublist.refl _ | exact List.nil_sublist _ | apply List.Sublist.cons_cons | apply List.Sublist.cons) (yv_of_yq rfl (yq_move rfl (by (conv => lhs; whnf) <;> rfl))) ?_
        refine HW.take 4 rfl (by kernel_rfl) (by kernel_rfl) (by kernel_rfl) rfl rfl (by repeat' first | exact List.Sublist.refl _ | exact List.nil_sublist _ | apply List.Sublist.cons_cons | apply List.Sublist.cons) (yv_of_yq rfl (yq_move rfl (by (conv => lhs; whnf) <;> rfl))) ?_
        refine HW.take 5 rfl (by kernel_rfl) (by kernel_rfl) (by kernel_rfl) rfl rfl (by repeat' first | exact List.Sublist.refl _ | exact List.nil_sublist _ | apply List.Sublist.cons_cons | apply List.Sublist.cons) (yv_of_yq rfl (yq_move rfl (by (conv => lhs; whnf) <;> rfl))) ?_
        refine HW.take 6 rfl (by kernel_rfl) (by kernel_rfl) (by kernel_rfl) rfl rfl (by repeat' first | exact List.Sublist.refl _ | exact List.nil_sublist _ | apply List.Sublist.cons_cons | apply List.Sublist.cons) (yv_of_yq rfl (yq_mul rfl (by (conv => lhs; whnf) <;> rfl) (by (conv => lhs; whnf) <;> rfl) (by omega))) ?_
        refine HW.take 7 rfl (by kernel_rfl) (by kernel_rfl) (by kernel_rfl) rfl rfl (by repeat' first | exact List.Sublist.refl _ | exact List.nil_sublist _ | apply List.Sublist.cons_cons | apply List.Sublist.cons) (yv_of_yq rfl (yq_add rfl (by (conv => lhs; whnf) <;> rfl) (by (conv => lhs; whnf) <;> rfl) (by omega))) ?_
        refine HW.take 8 rfl (by kernel_rfl) (by kernel_rfl) (by kernel_rfl) rfl rfl (by repeat' first | exact List.Sublist.refl _ | exact List.nil_sublist _ | apply List.Sublist.cons_cons | apply List.Sublist.cons) (yv_of_yq rfl (yq_move rfl (by (conv => lhs; whnf) <;> rfl))) ?_
        refine HW.take 9 rfl (by kernel_rfl) (by kernel_rfl) (by kernel_rfl) rfl rfl (by repeat' first | exact List.Sublist.refl _ | exact List.nil_sublist _ | apply List.Sublist.cons_cons | apply List.Sublist.cons) (yv_of_yq rfl (yq_sub rfl (by (conv => lhs; whnf) <;> rfl) (by (conv => lhs; whnf) <;> rfl) (by omega))) ?_
        refine HW.take 10 rfl (by kernel_rfl) (by kernel_rfl) (by kernel_rfl) rfl rfl (by repeat' first | exact List.Sublist.refl _ | exact List.nil_sublist _ | apply List.Sublist.cons_cons | apply List.Sublist.cons) (yv_of_yq rfl ((yq_index_slice rfl (by (conv => lhs; whnf) <;> rfl) (by (conv => lhs; whnf) <;> rfl) ts22 ti25 (by omega) (by omega)).to (v' := .pointer (some ⟨g, 0 + (2 * j + 1 - bitB (hb h) j) * 32, none⟩)) (by rw [show (2 * (j : Int) + 1 - (bitB (hb h) j : Int)).toNat = 2 * j + 1 - bitB (hb h) j by omega]))) ?_
        refine HW.take 11 rfl (by kernel_rfl) (by kernel_rfl) (by kernel_rfl) rfl rfl (by repeat' first | exact List.Sublist.refl _ | exact List.nil_sublist _ | apply List.Sublist.cons_cons | apply List.Sublist.cons) (yv_of_yq rfl ((yq_slice_arr (k := 32) (l := 0) (h := 32) rfl (by (conv => lhs; whnf) <;> rfl) ta25 ti5 (by rfl) (by rfl) (by decide) (by decide)).to (v' := .slice (some ⟨g, 0 + (2 * j + 1 - bitB (hb h) j) * 32, none⟩) 32 32) (by simp))) ?_
        refine HW.one 2 (by kernel_rfl) rfl ?_
        refine OW.append (news := hc (secretN seed n (2 * j + bitB (hb h) j))) rfl rfl rfl (by (conv => lhs; whnf) <;> rfl) (by (conv => lhs; whnf) <;> rfl) ts92 ti5 tz5 (by repeat' first | exact Del.head | apply Del.tail) (blk_cells (by repeat' first | exact List.mem_cons_self .. | apply List.mem_cons_of_mem)) (by rw [hc_length]) (hc_one _) rfl (by decide) (by simp only [maxLen]; omega) (by omega) (fun a1' c1' => ?_)
        refine OW.nil ⟨rfl, (by repeat' first | exact List.Sublist.refl _ | exact List.nil_sublist _ | apply List.Sublist.cons_cons | apply List.Sublist.cons), ?_⟩
        refine HW.one 12 (by kernel_rfl) rfl ?_
        refine OW.append (news := hc (pubL seed n (2 * j + 1 - bitB (hb h) j))) rfl rfl rfl (by (conv => lhs; whnf) <;> rfl) (by (conv => lhs; whnf) <;> rfl) ts92 ti5 tz5 (by repeat' first | exact Del.head | apply Del.tail) (fun w hw j' u hu => hsCell (l := publicL seed n) (HsAt.row (a := some g) (publicL_length _ _).symm (hw.own _ (by repeat' first | exact List.mem_cons_self .. | apply List.mem_cons_of_mem))) (2 * j + 1 - bitB (hb h) j) (by rw [publicL_length]; omega) j' u (by rw [publicL_at _ _ _ (by omega)]; exact hu)) (by rw [hc_length]) (hc_one _) rfl (by decide) (by simp only [maxLen]; omega) (by omega) (fun a2' c2' => ?_)
        refine OW.nil ⟨rfl, (by repeat' first | exact List.Sublist.refl _ | exact List.nil_sublist _ | apply List.Sublist.cons_cons | apply List.Sublist.cons), ?_⟩
        refine HW.take 13 rfl (by kernel_rfl) (by kernel_rfl) (by kernel_rfl) rfl rfl (by repeat' first | exact List.Sublist.refl _ | exact List.nil_sublist _ | apply List.Sublist.cons_cons | apply List.Sublist.cons) (yv_of_yq rfl (yq_assign rfl (by (conv => lhs; whnf) <;> rfl))) ?_
        refine HW.take 14 rfl (by kernel_rfl) (by kernel_rfl) (by kernel_rfl) rfl rfl (by repeat' first | exact List.Sublist.refl _ | exact List.nil_sublist _ | apply List.Sublist.cons_cons | apply List.Sublist.cons) (yv_of_yq rfl (yq_assign rfl (by (conv => lhs; whnf) <;> rfl))) ?_
        refine HW.done (by kernel_rfl) ?_
        refine hK13 _ _ ?_
        refine CW.perm perm11 ?_
        refine CW.drop (List.Sublist.cons_cons _ (List.Sublist.cons_cons _ (List.sublist_cons_self _ _))) ?_
        refine CW.region ?_
        refine OW.q rfl rfl (yq_move rfl (by (conv => lhs; whnf) <;> rfl)) ?_
        refine OW.q rfl rfl (yq_add rfl (by (conv => lhs; whnf) <;> rfl) (by (conv => lhs; whnf) <;> rfl) (by omega)) ?_
        refine OW.q rfl rfl (yq_assign rfl (by (conv => lhs; whnf) <;> rfl)) ?_
        refine OW.nil ?_
        refine ⟨j + 1, ⟨a1', c1', a2', c2', Has.mk ⟨(by (conv => lhs; whnf) <;> rfl), (by (conv => lhs; whnf) <;> rfl), (by (conv => lhs; whnf) <;> rfl), (by (conv => lhs; whnf) <;> rfl), by rw [signA_succ, List.length_append, hb_length]; exact (by (conv => lhs; whnf) <;> rfl), by rw [signO_succ, List.length_append, hb_length]; exact (by (conv => lhs; whnf) <;> rfl), (by (conv => lhs; whnf) <;> rfl), trivial⟩, by omega, ?_⟩, by omega⟩
        rw [signA_succ, signO_succ, List.length_append, List.length_append, bc_app, bc_app, hb_length, hb_length]; rfl
      · have hj5 : j = 256 := by omega
        subst hj5
        refine CW.exit ?_
        refine then_exit ?_
        refine then_exit ?_
        refine blockQ_hit ?_
        refine hK9 _ _ ?_
        refine CW.seq_k fun K16 hK16 => ?_
        refine CW.region ?_
        refine OW.q rfl rfl (yq_move rfl (by (conv => lhs; whnf) <;> rfl)) ?_
        refine OW.q rfl rfl (yq_move rfl (by (conv => lhs; whnf) <;> rfl)) ?_
        refine OW.appendRow rfl rfl rfl (by (conv => lhs; whnf) <;> rfl) (by (conv => lhs; whnf) <;> rfl) ts92 ti5 tz5 (by repeat' first | exact Del.head | apply Del.tail) (by repeat' first | exact List.mem_cons_self .. | apply List.mem_cons_of_mem) (bc_one _) rfl (by decide) (by simp only [maxLen]; omega) (by omega) (fun a3 c3 => ?_)
        rw [← bc_app, ← signB_eq, ← List.length_append, ← signB_eq]
        refine OW.know _ (know_row (List.mem_cons_self ..) (by rw [signB_length]; decide)) ?_
        rintro ⟨g3, rfl⟩
        refine OW.q rfl rfl (yq_conv_bytes (l := signB seed n (hb h)) rfl ts92 Tryd.underlying5 tt9 (by (conv => lhs; whnf) <;> rfl) rfl (row_cells (by repeat' first | exact List.mem_cons_self .. | apply List.mem_cons_of_mem))) ?_
        refine OW.q rfl rfl (yq_assign rfl (by (conv => lhs; whnf) <;> rfl)) ?_
        refine OW.nil ?_
        refine hK16 _ _ ?_
        refine CW.ret ?_
        -- ret (ret)
        have hS : signR seed (n : Int) (hb h) = signB seed n (hb h) := signR_ok hix
        rw [hS]
        exact fin1 (Or.inr rfl) rfl ⟨by decide, (by (conv => lhs; whnf) <;> rfl)⟩ (fun w hw => ⟨rfl, hw.sub (List.nil_sublist _)⟩)

end Go.Proofs.YtahdekllphehkaaDoor
