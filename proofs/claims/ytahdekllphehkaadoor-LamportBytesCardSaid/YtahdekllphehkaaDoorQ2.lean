/- Secrets and public hashes of a key; no statement of the seat is proved here. -/
import Derived.Test.YtahdekllphehkaaDoorQ1
import Derived.Test.YtahdekllphehkaaDoorL16
import Derived.Test.YtahdekllphehkaaDoorP0
set_option linter.unusedVariables false
set_option linter.unusedSimpArgs false
namespace Go.Proofs.YtahdekllphehkaaDoor
open Go.WL Go.Spec

theorem textB_le (s : Bytes) (h : s.length ≤ 4294967296) : (textB s).length ≤ s.length + 10 := by
  have := numB_le (UInt64.ofNat s.length)
  rw [textB_eq, List.length_append]
  rw [u64_len h] at this
  omega
theorem secretN_eq (seed : Bytes) (index k : Nat) : secretN seed index k = sha ([2] ++ textB seed ++ putB (UInt64.ofNat index) 4 ++ putB (UInt64.ofNat k) 2) := by unfold secretN; rfl
theorem secretL_bad {seed : Bytes} {index i bit : Int} (h : index < 0 ∨ 2147483648 ≤ index ∨ i < 0 ∨ 256 ≤ i ∨ bit < 0 ∨ 1 < bit) : secretL seed index i bit = zeroHash := by unfold secretL; rw [if_pos h]
theorem secretL_ok {seed : Bytes} {index i bit : Int} (h : ¬ (index < 0 ∨ 2147483648 ≤ index ∨ i < 0 ∨ 256 ≤ i ∨ bit < 0 ∨ 1 < bit)) : secretL seed index i bit = secretN seed index.toNat (2 * i.toNat + bit.toNat) := by unfold secretL; rw [if_neg h]
theorem shownL_eq (b : Bytes) : shownL b = sha ([3] ++ b) := by unfold shownL; rfl
theorem keyLeaf_eq (l : List Hash) : keyLeaf l = if l.length = 512 then sha ([4] ++ l.flatMap hb) else zeroHash := by unfold keyLeaf; rfl
theorem pubL_eq (seed : Bytes) (index k : Nat) : pubL seed index k = shownL (hb (secretN seed index k)) := by unfold pubL; rfl
def publicR (seed : Bytes) (index : Int) : List Hash := if index < 0 ∨ 2147483648 ≤ index then [] else publicL seed index.toNat
theorem publicR_bad {seed : Bytes} {index : Int} (h : index < 0 ∨ 2147483648 ≤ index) : publicR seed index = [] := if_pos h
theorem publicR_ok {seed : Bytes} {index : Int} (h : ¬ (index < 0 ∨ 2147483648 ≤ index)) : publicR seed index = publicL seed index.toNat := if_neg h
theorem publicL_fill (seed : Bytes) (index : Nat) : fillL (pubL seed index) 512 512 = publicL seed index := by rw [fillL_all]; unfold publicL; rfl
theorem publicL_at (seed : Bytes) (index j : Nat) (h : j < 512) : (publicL seed index).getD j zeroHash = pubL seed index j := by unfold publicL; simp [List.getD_eq_getElem?_getD, h]

set_option maxRecDepth 100000 in
set_option maxHeartbeats 1000000 in
theorem secret_calls (seed : Bytes) (index i bit : Int) (w : World) (hs : seed.length ≤ 4294967200) (hg : GL w) :
    Calls Tryd.prog 54 #[.string (bs seed), .int .i64 index, .int .i64 i, .int .i64 bit] w fun e w' => e = .returned (HV (secretL seed index i bit)) ∧ Cl w [] [] w' := by
  have htl := textB_le seed (by omega)
  refine calls_of_CW (L := []) Tryd.func54 rfl (Nat.le_of_ble_eq_true rfl) (Cl.refl _) ?_
  refine CW.seq_k fun K1 hK1 => ?_
  refine CW.region ?_
  refine OW.alloc rfl rfl rfl tz25 (fun b8 => ?_)
  refine OW.nil ?_
  refine hK1 _ _ ?_
  refine CW.seq_k fun K2 hK2 => ?_
  refine CW.seq_k fun K3 hK3 => ?_
  refine CW.region ?_
  refine OW.q rfl rfl (yq_move rfl (by (conv => lhs; whnf) <;> rfl)) ?_
  refine OW.qb rfl rfl (yq_lss rfl (by (conv => lhs; whnf) <;> rfl) (by (conv => lhs; whnf) <;> rfl)) (fun b10 hb10 => ?_)
  refine OW.q rfl rfl (yq_move rfl (by (conv => lhs; whnf) <;> rfl)) ?_
  apply OW.segOr 3 [12, 13] 14 hb10
  · intro hb10e
    refine QW.q (by subst hb10e; rfl) rfl (yq_move rfl (by (conv => lhs; whnf) <;> rfl)) ?_
    refine QW.qb (by subst hb10e; rfl) rfl (yq_geq rfl (by (conv => lhs; whnf) <;> rfl) (by (conv => lhs; whnf) <;> rfl)) (fun b13 hb13 => ?_)
    refine QW.q rfl rfl (yq_pick rfl (by (conv => lhs; whnf) <;> rfl) (by subst hb10e; ((conv => lhs; whnf) <;> rfl))) ?_
    exact QW.nil (SegM.mk (any_c (any_c any_n)) (or_run hb10 hb10e hb13))
  · intro hb10e
    refine QW.skip (by subst hb10e; rfl) rfl ?_
    refine QW.skip (by subst hb10e; rfl) rfl ?_
    refine QW.q rfl rfl (yq_pick rfl (by (conv => lhs; whnf) <;> rfl) (by subst hb10e; ((conv => lhs; whnf) <;> rfl))) ?_
    exact QW.nil (SegM.mk (any_c (any_c any_n)) (or_skip hb10 hb10e))
  · intro ρ14 b14 hA hb14
    obtain ⟨x12, x13, rfl⟩ := hA
    refine OW.q rfl rfl (yq_move rfl (by (conv => lhs; whnf) <;> rfl)) ?_
    apply OW.segOr 3 [16, 17] 18 hb14
    · intro hb14e
      refine QW.q (by subst hb14e; rfl) rfl (yq_move rfl (by (conv => lhs; whnf) <;> rfl)) ?_
      refine QW.qb (by subst hb14e; rfl) rfl (yq_lss rfl (by (conv => lhs; whnf) <;> rfl) (by (conv => lhs; whnf) <;> rfl)) (fun b17 hb17 => ?_)
      refine QW.q rfl rfl (yq_pick rfl (by (conv => lhs; whnf) <;> rfl) (by subst hb14e; ((conv => lhs; whnf) <;> rfl))) ?_
      exact QW.nil (SegM.mk (any_c (any_c any_n)) (or_run hb14 hb14e hb17))
    · intro hb14e
      refine QW.skip (by subst hb14e; rfl) rfl ?_
      refine QW.skip (by subst hb14e; rfl) rfl ?_
      refine QW.q rfl rfl (yq_pick rfl (by (conv => lhs; whnf) <;> rfl) (by subst hb14e; ((conv => lhs; whnf) <;> rfl))) ?_
      exact QW.nil (SegM.mk (any_c (any_c any_n)) (or_skip hb14 hb14e))
    · intro ρ18 b18 hA hb18
      obtain ⟨x16, x17, rfl⟩ := hA
      refine OW.q rfl rfl (yq_move rfl (by (conv => lhs; whnf) <;> rfl)) ?_
      apply OW.segOr 3 [20, 21] 22 hb18
      · intro hb18e
        refine QW.q (by subst hb18e; rfl) rfl (yq_move rfl (by (conv => lhs; whnf) <;> rfl)) ?_
        refine QW.qb (by subst hb18e; rfl) rfl (yq_geq rfl (by (conv => lhs; whnf) <;> rfl) (by (conv => lhs; whnf) <;> rfl)) (fun b21 hb21 => ?_)
        refine QW.q rfl rfl (yq_pick rfl (by (conv => lhs; whnf) <;> rfl) (by subst hb18e; ((conv => lhs; whnf) <;> rfl))) ?_
        exact QW.nil (SegM.mk (any_c (any_c any_n)) (or_run hb18 hb18e hb21))
      · intro hb18e
        refine QW.skip (by subst hb18e; rfl) rfl ?_
        refine QW.skip (by subst hb18e; rfl) rfl ?_
        refine QW.q rfl rfl (yq_pick rfl (by (conv => lhs; whnf) <;> rfl) (by subst hb18e; ((conv => lhs; whnf) <;> rfl))) ?_
        exact QW.nil (SegM.mk (any_c (any_c any_n)) (or_skip hb18 hb18e))
      · intro ρ22 b22 hA hb22
        obtain ⟨x20, x21, rfl⟩ := hA
        refine OW.q rfl rfl (yq_move rfl (by (conv => lhs; whnf) <;> rfl)) ?_
        apply OW.segOr 3 [24, 25] 26 hb22
        · intro hb22e
          refine QW.q (by subst hb22e; rfl) rfl (yq_move rfl (by (conv => lhs; whnf) <;> rfl)) ?_
          refine QW.qb (by subst hb22e; rfl) rfl (yq_lss rfl (by (conv => lhs; whnf) <;> rfl) (by (conv => lhs; whnf) <;> rfl)) (fun b25 hb25 => ?_)
          refine QW.q rfl rfl (yq_pick rfl (by (conv => lhs; whnf) <;> rfl) (by subst hb22e; ((conv => lhs; whnf) <;> rfl))) ?_
          exact QW.nil (SegM.mk (any_c (any_c any_n)) (or_run hb22 hb22e hb25))
        · intro hb22e
          refine QW.skip (by subst hb22e; rfl) rfl ?_
          refine QW.skip (by subst hb22e; rfl) rfl ?_
          refine QW.q rfl rfl (yq_pick rfl (by (conv => lhs; whnf) <;> rfl) (by subst hb22e; ((conv => lhs; whnf) <;> rfl))) ?_
          exact QW.nil (SegM.mk (any_c (any_c any_n)) (or_skip hb22 hb22e))
        · intro ρ26 b26 hA hb26
          obtain ⟨x24, x25, rfl⟩ := hA
          refine OW.q rfl rfl (yq_move rfl (by (conv => lhs; whnf) <;> rfl)) ?_
          apply OW.segOr 3 [28, 29] 30 hb26
          · intro hb26e
            refine QW.q (by subst hb26e; rfl) rfl (yq_move rfl (by (conv => lhs; whnf) <;> rfl)) ?_
            refine QW.qb (by subst hb26e; rfl) rfl (yq_gtr rfl (by (conv => lhs; whnf) <;> rfl) (by (conv => lhs; whnf) <;> rfl)) (fun b29 hb29 => ?_)
            refine QW.q rfl rfl (yq_pick rfl (by (conv => lhs; whnf) <;> rfl) (by subst hb26e; ((conv => lhs; whnf) <;> rfl))) ?_
            exact QW.nil (SegM.mk (any_c (any_c any_n)) (or_run hb26 hb26e hb29))
          · intro hb26e
            refine QW.skip (by subst hb26e; rfl) rfl ?_
            refine QW.skip (by subst hb26e; rfl) rfl ?_
            refine QW.q rfl rfl (yq_pick rfl (by (conv => lhs; whnf) <;> rfl) (by subst hb26e; ((conv => lhs; whnf) <;> rfl))) ?_
            exact QW.nil (SegM.mk (any_c (any_c any_n)) (or_skip hb26 hb26e))
          · intro ρ30 b30 hA hb30
            obtain ⟨x28, x29, rfl⟩ := hA
            refine OW.nil ?_
            refine hK3 _ _ ?_
            refine CW.condq (by (conv => lhs; whnf) <;> rfl) hb30 (fun hc0 => ?_) (fun hc0 => ?_)
            · rw [secretL_bad (by omega)]
              refine CW.seq_k fun K4 hK4 => ?_
              refine CW.region ?_
              refine OW.q rfl rfl (yq_build (parts := []) (pv := []) (cs := hc zeroHash) rfl rfl (by kernel_rfl)) ?_
              refine OW.storeH rfl rfl rfl (by (conv => lhs; whnf) <;> rfl) (by (conv => lhs; whnf) <;> rfl) ti25 (by repeat' first | exact Put.head | apply Put.tail) (hc_length _) ?_
              refine OW.nil ?_
              refine hK4 _ _ ?_
              refine CW.ret ?_
              refine then_ret ?_
              -- ret (ret)
              exact fin1 (Or.inr rfl) rfl (rv_hash (by decide) (by (conv => lhs; whnf) <;> rfl) ti25 (by repeat' first | exact List.mem_cons_self .. | apply List.mem_cons_of_mem)) (fun w hw => ⟨rfl, hw.sub (List.nil_sublist _)⟩)
            · obtain ⟨n, rfl⟩ : ∃ n : Nat, index = (n : Int) := ⟨index.toNat, by omega⟩
              obtain ⟨k, rfl⟩ : ∃ k : Nat, i = (k : Int) := ⟨i.toNat, by omega⟩
              obtain ⟨c, rfl⟩ : ∃ c : Nat, bit = (c : Int) := ⟨bit.toNat, by omega⟩
              refine CW.skip ?_
              refine hK2 _ _ ?_
              refine CW.seq_k fun K5 hK5 => ?_
              refine CW.region ?_
              refine OW.q rfl rfl (yq_move rfl (by (conv => lhs; whnf) <;> rfl)) ?_
              refine OW.q rfl rfl (yq_call rfl rfl (.cons (by (conv => lhs; whnf) <;> rfl) .nil) en106 (fun w hw => text_calls _ w (by omega))) ?_
              refine OW.q rfl rfl (yq_add_bs (a := [2]) rfl (by (conv => lhs; whnf) <;> rfl) (by (conv => lhs; whnf) <;> rfl) (by simp only [List.length_append, List.length_cons, List.length_nil, putB_length]; omega)) ?_
              refine OW.q rfl rfl (yq_move rfl (by (conv => lhs; whnf) <;> rfl)) ?_
              refine OW.q rfl rfl ((yq_conv_i64_u64 rfl Tryd.underlying3 Tryd.underlying147 (by (conv => lhs; whnf) <;> rfl) (by omega)).to (v' := U64 (UInt64.ofNat n)) (by first | rfl | simp)) ?_
              refine OW.q rfl rfl (yq_call rfl rfl (.cons (by (conv => lhs; whnf) <;> rfl) ( .cons (by (conv => lhs; whnf) <;> rfl) .nil)) en125 (fun w hw => put_calls _ 4 w (by decide) (by decide))) ?_
              refine OW.q rfl rfl (yq_add_bs rfl (by (conv => lhs; whnf) <;> rfl) (by (conv => lhs; whnf) <;> rfl) (by simp only [List.length_append, List.length_cons, List.length_nil, putB_length]; omega)) ?_
              refine OW.q rfl rfl (yq_move rfl (by (conv => lhs; whnf) <;> rfl)) ?_
              refine OW.q rfl rfl (yq_mul rfl (by (conv => lhs; whnf) <;> rfl) (by (conv => lhs; whnf) <;> rfl) (by omega)) ?_
              refine OW.q rfl rfl (yq_move rfl (by (conv => lhs; whnf) <;> rfl)) ?_
              refine OW.q rfl rfl (yq_add rfl (by (conv => lhs; whnf) <;> rfl) (by (conv => lhs; whnf) <;> rfl) (by omega)) ?_
              refine OW.q rfl rfl ((yq_conv_i64_u64 rfl Tryd.underlying3 Tryd.underlying147 (by (conv => lhs; whnf) <;> rfl) (by omega)).to (v' := U64 (UInt64.ofNat (2 * k + c))) (by first | rfl | (rw [show (2 * (k : Int) + (c : Int)) = ((2 * k + c : Nat) : Int) by omega]; rfl) | (congr 1; omega))) ?_
              refine OW.q rfl rfl (yq_call rfl rfl (.cons (by (conv => lhs; whnf) <;> rfl) ( .cons (by (conv => lhs; whnf) <;> rfl) .nil)) en125 (fun w hw => put_calls _ 2 w (by decide) (by decide))) ?_
              refine OW.q rfl rfl (yq_add_bs rfl (by (conv => lhs; whnf) <;> rfl) (by (conv => lhs; whnf) <;> rfl) (by simp only [List.length_append, List.length_cons, List.length_nil, putB_length]; omega)) ?_
              refine OW.q rfl rfl (yq_call rfl rfl (.cons (by (conv => lhs; whnf) <;> rfl) .nil) en100 (fun w hw => sum_calls _ w (by simp only [List.length_append, List.length_cons, List.length_nil, putB_length]; omega) (Cl_gl0 hw hg))) ?_
              refine OW.storeH rfl rfl rfl (by (conv => lhs; whnf) <;> rfl) (by (conv => lhs; whnf) <;> rfl) ti25 (by repeat' first | exact Put.head | apply Put.tail) (hc_length _) ?_
              refine OW.nil ?_
              refine hK5 _ _ ?_
              refine CW.ret ?_
              -- ret (ret)
              rw [secretL_ok (by omega), Int.toNat_natCast, Int.toNat_natCast, Int.toNat_natCast, secretN_eq]
              exact fin1 (Or.inr rfl) rfl (rv_hash (by decide) (by (conv => lhs; whnf) <;> rfl) ti25 (by repeat' first | exact List.mem_cons_self .. | apply List.mem_cons_of_mem)) (fun w hw => ⟨rfl, hw.sub (List.nil_sublist _)⟩)

set_option maxRecDepth 100000 in
set_option maxHeartbeats 1000000 in
theorem refsecret_calls (seed : Bytes) (index i bit : Int) (w : World) (hs : seed.length ≤ 4294967200) :
    Calls Tryd.prog 55 #[.string (bs seed), .int .i64 index, .int .i64 i, .int .i64 bit] w fun e w' => e = .returned (HV (secretL seed index i bit)) ∧ Cl w [] [] w' := by
  have htl := textB_le seed (by omega)
  refine calls_of_CW (L := []) Tryd.func55 rfl (Nat.le_of_ble_eq_true rfl) (Cl.refl _) ?_
  refine CW.seq_k fun K1 hK1 => ?_
  refine CW.region ?_
  refine OW.alloc rfl rfl rfl tz25 (fun b8 => ?_)
  refine OW.nil ?_
  refine hK1 _ _ ?_
  refine CW.seq_k fun K2 hK2 => ?_
  refine CW.seq_k fun K3 hK3 => ?_
  refine CW.region ?_
  refine OW.q rfl rfl (yq_move rfl (by (conv => lhs; whnf) <;> rfl)) ?_
  refine OW.qb rfl rfl (yq_lss rfl (by (conv => lhs; whnf) <;> rfl) (by (conv => lhs; whnf) <;> rfl)) (fun b10 hb10 => ?_)
  refine OW.q rfl rfl (yq_move rfl (by (conv => lhs; whnf) <;> rfl)) ?_
  apply OW.segOr 3 [12, 13] 14 hb10
  · intro hb10e
    refine QW.q (by subst hb10e; rfl) rfl (yq_move rfl (by (conv => lhs; whnf) <;> rfl)) ?_
    refine QW.qb (by subst hb10e; rfl) rfl (yq_gtr rfl (by (conv => lhs; whnf) <;> rfl) (by (conv => lhs; whnf) <;> rfl)) (fun b13 hb13 => ?_)
    refine QW.q rfl rfl (yq_pick rfl (by (conv => lhs; whnf) <;> rfl) (by subst hb10e; ((conv => lhs; whnf) <;> rfl))) ?_
    exact QW.nil (SegM.mk (any_c (any_c any_n)) (or_run hb10 hb10e hb13))
  · intro hb10e
    refine QW.skip (by subst hb10e; rfl) rfl ?_
    refine QW.skip (by subst hb10e; rfl) rfl ?_
    refine QW.q rfl rfl (yq_pick rfl (by (conv => lhs; whnf) <;> rfl) (by subst hb10e; ((conv => lhs; whnf) <;> rfl))) ?_
    exact QW.nil (SegM.mk (any_c (any_c any_n)) (or_skip hb10 hb10e))
  · intro ρ14 b14 hA hb14
    obtain ⟨x12, x13, rfl⟩ := hA
    refine OW.q rfl rfl (yq_move rfl (by (conv => lhs; whnf) <;> rfl)) ?_
    apply OW.segOr 3 [16, 17] 18 hb14
    · intro hb14e
      refine QW.q (by subst hb14e; rfl) rfl (yq_move rfl (by (conv => lhs; whnf) <;> rfl)) ?_
      refine QW.qb (by subst hb14e; rfl) rfl (yq_lss rfl (by (conv => lhs; whnf) <;> rfl) (by (conv => lhs; whnf) <;> rfl)) (fun b17 hb17 => ?_)
      refine QW.q rfl rfl (yq_pick rfl (by (conv => lhs; whnf) <;> rfl) (by subst hb14e; ((conv => lhs; whnf) <;> rfl))) ?_
      exact QW.nil (SegM.mk (any_c (any_c any_n)) (or_run hb14 hb14e hb17))
    · intro hb14e
      refine QW.skip (by subst hb14e; rfl) rfl ?_
      refine QW.skip (by subst hb14e; rfl) rfl ?_
      refine QW.q rfl rfl (yq_pick rfl (by (conv => lhs; whnf) <;> rfl) (by subst hb14e; ((conv => lhs; whnf) <;> rfl))) ?_
      exact QW.nil (SegM.mk (any_c (any_c any_n)) (or_skip hb14 hb14e))
    · intro ρ18 b18 hA hb18
      obtain ⟨x16, x17, rfl⟩ := hA
      refine OW.q rfl rfl (yq_move rfl (by (conv => lhs; whnf) <;> rfl)) ?_
      apply OW.segOr 3 [20, 21] 22 hb18
      · intro hb18e
        refine QW.q (by subst hb18e; rfl) rfl (yq_move rfl (by (conv => lhs; whnf) <;> rfl)) ?_
        refine QW.qb (by subst hb18e; rfl) rfl (yq_gtr rfl (by (conv => lhs; whnf) <;> rfl) (by (conv => lhs; whnf) <;> rfl)) (fun b21 hb21 => ?_)
        refine QW.q rfl rfl (yq_pick rfl (by (conv => lhs; whnf) <;> rfl) (by subst hb18e; ((conv => lhs; whnf) <;> rfl))) ?_
        exact QW.nil (SegM.mk (any_c (any_c any_n)) (or_run hb18 hb18e hb21))
      · intro hb18e
        refine QW.skip (by subst hb18e; rfl) rfl ?_
        refine QW.skip (by subst hb18e; rfl) rfl ?_
        refine QW.q rfl rfl (yq_pick rfl (by (conv => lhs; whnf) <;> rfl) (by subst hb18e; ((conv => lhs; whnf) <;> rfl))) ?_
        exact QW.nil (SegM.mk (any_c (any_c any_n)) (or_skip hb18 hb18e))
      · intro ρ22 b22 hA hb22
        obtain ⟨x20, x21, rfl⟩ := hA
        refine OW.q rfl rfl (yq_move rfl (by (conv => lhs; whnf) <;> rfl)) ?_
        apply OW.segOr 7 [24, 25, 26, 27, 28, 29] 30 hb22
        · intro hb22e
          refine QW.q (by subst hb22e; rfl) rfl (yq_move rfl (by (conv => lhs; whnf) <;> rfl)) ?_
          refine QW.qb (by subst hb22e; rfl) rfl (yq_neq rfl (by (conv => lhs; whnf) <;> rfl) (by (conv => lhs; whnf) <;> rfl)) (fun b25 hb25 => ?_)
          refine QW.q (by subst hb22e; rfl) rfl (yq_move rfl (by (conv => lhs; whnf) <;> rfl)) ?_
          apply QW.segAnd 3 [27, 28] 29 hb25
          · intro hb25e
            refine QW.q (by subst hb25e; rfl) rfl (yq_move rfl (by (conv => lhs; whnf) <;> rfl)) ?_
            refine QW.qb (by subst hb25e; rfl) rfl (yq_neq rfl (by (conv => lhs; whnf) <;> rfl) (by (conv => lhs; whnf) <;> rfl)) (fun b28 hb28 => ?_)
            refine QW.q (by subst hb22e; rfl) rfl (yq_pick rfl (by (conv => lhs; whnf) <;> rfl) (by subst hb25e; ((conv => lhs; whnf) <;> rfl))) ?_
            exact QW.nil (SegM.mk (any_c (any_c any_n)) (and_run hb25 hb25e hb28))
          · intro hb25e
            refine QW.skip (by subst hb25e; rfl) rfl ?_
            refine QW.skip (by subst hb25e; rfl) rfl ?_
            refine QW.q (by subst hb22e; rfl) rfl (yq_pick rfl (by (conv => lhs; whnf) <;> rfl) (by subst hb25e; ((conv => lhs; whnf) <;> rfl))) ?_
            exact QW.nil (SegM.mk (any_c (any_c any_n)) (and_skip hb25 hb25e))
          · intro ρ29 b29 hA hb29
            obtain ⟨x27, x28, rfl⟩ := hA
            refine QW.q rfl rfl (yq_pick rfl (by (conv => lhs; whnf) <;> rfl) (by subst hb22e; ((conv => lhs; whnf) <;> rfl))) ?_
            exact QW.nil (SegM.mk (any_c (any_c (any_c (any_c (any_c (any_c any_n)))))) (or_run hb22 hb22e hb29))
        · intro hb22e
          refine QW.skip (by subst hb22e; rfl) rfl ?_
          refine QW.skip (by subst hb22e; rfl) rfl ?_
          refine QW.skip (by subst hb22e; rfl) rfl ?_
          refine QW.skip (by subst hb22e; rfl) rfl ?_
          refine QW.skip (by subst hb22e; rfl) rfl ?_
          refine QW.skip (by subst hb22e; rfl) rfl ?_
          refine QW.q rfl rfl (yq_pick rfl (by (conv => lhs; whnf) <;> rfl) (by subst hb22e; ((conv => lhs; whnf) <;> rfl))) ?_
          exact QW.nil (SegM.mk (any_c (any_c (any_c (any_c (any_c (any_c any_n)))))) (or_skip hb22 hb22e))
        · intro ρ30 b30 hA hb30
          obtain ⟨x24, x25, x26, x27, x28, x29, rfl⟩ := hA
          refine OW.nil ?_
          refine hK3 _ _ ?_
          refine CW.condq (by (conv => lhs; whnf) <;> rfl) hb30 (fun hc0 => ?_) (fun hc0 => ?_)
          · rw [secretL_bad (by omega)]
            refine CW.seq_k fun K4 hK4 => ?_
            refine CW.region ?_
            refine OW.q rfl rfl (yq_build (parts := []) (pv := []) (cs := hc zeroHash) rfl rfl (by kernel_rfl)) ?_
            refine OW.storeH rfl rfl rfl (by (conv => lhs; whnf) <;> rfl) (by (conv => lhs; whnf) <;> rfl) ti25 (by repeat' first | exact Put.head | apply Put.tail) (hc_length _) ?_
            refine OW.nil ?_
            refine hK4 _ _ ?_
            refine CW.ret ?_
            refine then_ret ?_
            -- ret (ret)
            exact fin1 (Or.inr rfl) rfl (rv_hash (by decide) (by (conv => lhs; whnf) <;> rfl) ti25 (by repeat' first | exact List.mem_cons_self .. | apply List.mem_cons_of_mem)) (fun w hw => ⟨rfl, hw.sub (List.nil_sublist _)⟩)
          · obtain ⟨n, rfl⟩ : ∃ n : Nat, index = (n : Int) := ⟨index.toNat, by omega⟩
            obtain ⟨k, rfl⟩ : ∃ k : Nat, i = (k : Int) := ⟨i.toNat, by omega⟩
            obtain ⟨c, rfl⟩ : ∃ c : Nat, bit = (c : Int) := ⟨bit.toNat, by omega⟩
            refine CW.skip ?_
            refine hK2 _ _ ?_
            refine CW.seq_k fun K5 hK5 => ?_
            refine CW.region ?_
            refine OW.q rfl rfl (yq_move rfl (by (conv => lhs; whnf) <;> rfl)) ?_
            refine OW.q rfl rfl (yq_call rfl rfl (.cons (by (conv => lhs; whnf) <;> rfl) .nil) en126 (fun w hw => reftext_calls _ w (by omega))) ?_
            refine OW.q rfl rfl (yq_add_bs (a := [2]) rfl (by (conv => lhs; whnf) <;> rfl) (by (conv => lhs; whnf) <;> rfl) (by simp only [List.length_append, List.length_cons, List.length_nil, putB_length]; omega)) ?_
            refine OW.q rfl rfl (yq_move rfl (by (conv => lhs; whnf) <;> rfl)) ?_
            refine OW.q rfl rfl ((yq_conv_i64_u64 rfl Tryd.underlying3 Tryd.underlying147 (by (conv => lhs; whnf) <;> rfl) (by omega)).to (v' := U64 (UInt64.ofNat n)) (by first | rfl | simp)) ?_
            refine OW.q rfl rfl (yq_call rfl rfl (.cons (by (conv => lhs; whnf) <;> rfl) ( .cons (by (conv => lhs; whnf) <;> rfl) .nil)) en127 (fun w hw => refput_calls _ 4 w (by decide))) ?_
            refine OW.q rfl rfl (yq_add_bs rfl (by (conv => lhs; whnf) <;> rfl) (by (conv => lhs; whnf) <;> rfl) (by simp only [List.length_append, List.length_cons, List.length_nil, putB_length]; omega)) ?_
            refine OW.q rfl rfl (yq_move rfl (by (conv => lhs; whnf) <;> rfl)) ?_
            refine OW.q rfl rfl (yq_mul rfl (by (conv => lhs; whnf) <;> rfl) (by (conv => lhs; whnf) <;> rfl) (by omega)) ?_
            refine OW.q rfl rfl (yq_move rfl (by (conv => lhs; whnf) <;> rfl)) ?_
            refine OW.q rfl rfl (yq_add rfl (by (conv => lhs; whnf) <;> rfl) (by (conv => lhs; whnf) <;> rfl) (by omega)) ?_
            refine OW.q rfl rfl ((yq_conv_i64_u64 rfl Tryd.underlying3 Tryd.underlying147 (by (conv => lhs; whnf) <;> rfl) (by omega)).to (v' := U64 (UInt64.ofNat (2 * k + c))) (by first | rfl | (rw [show (2 * (k : Int) + (c : Int)) = ((2 * k + c : Nat) : Int) by omega]; rfl) | (congr 1; omega))) ?_
            refine OW.q rfl rfl (yq_call rfl rfl (.cons (by (conv => lhs; whnf) <;> rfl) ( .cons (by (conv => lhs; whnf) <;> rfl) .nil)) en127 (fun w hw => refput_calls _ 2 w (by decide))) ?_
            refine OW.q rfl rfl (yq_add_bs rfl (by (conv => lhs; whnf) <;> rfl) (by (conv => lhs; whnf) <;> rfl) (by simp only [List.length_append, List.length_cons, List.length_nil, putB_length]; omega)) ?_
            refine OW.q rfl rfl (yq_call rfl rfl (.cons (by (conv => lhs; whnf) <;> rfl) .nil) en102 (fun w hw => refsum_calls _ w (by simp only [List.length_append, List.length_cons, List.length_nil, putB_length]; omega))) ?_
            refine OW.storeH rfl rfl rfl (by (conv => lhs; whnf) <;> rfl) (by (conv => lhs; whnf) <;> rfl) ti25 (by repeat' first | exact Put.head | apply Put.tail) (hc_length _) ?_
            refine OW.nil ?_
            refine hK5 _ _ ?_
            refine CW.ret ?_
            -- ret (ret)
            rw [secretL_ok (by omega), Int.toNat_natCast, Int.toNat_natCast, Int.toNat_natCast, secretN_eq]
            exact fin1 (Or.inr rfl) rfl (rv_hash (by decide) (by (conv => lhs; whnf) <;> rfl) ti25 (by repeat' first | exact List.mem_cons_self .. | apply List.mem_cons_of_mem)) (fun w hw => ⟨rfl, hw.sub (List.nil_sublist _)⟩)

set_option maxRecDepth 100000 in
set_option maxHeartbeats 1000000 in
theorem shown_calls (b : Bytes) (w : World) (hb : b.length ≤ 4294967200) (hg : GL w) :
    Calls Tryd.prog 128 #[.string (bs b)] w fun e w' => e = .returned (HV (shownL b)) ∧ Cl w [] [] w' := by
  refine calls_of_CW (L := []) Tryd.func128 rfl (Nat.le_of_ble_eq_true rfl) (Cl.refl _) ?_
  refine CW.seq_k fun K1 hK1 => ?_
  refine CW.region ?_
  refine OW.alloc rfl rfl rfl tz25 (fun b2 => ?_)
  refine OW.nil ?_
  refine hK1 _ _ ?_
  refine CW.seq_k fun K2 hK2 => ?_
  refine CW.region ?_
  refine OW.q rfl rfl (yq_move rfl (by (conv => lhs; whnf) <;> rfl)) ?_
  refine OW.q rfl rfl (yq_add_bs (a := [3]) rfl (by (conv => lhs; whnf) <;> rfl) (by (conv => lhs; whnf) <;> rfl) (by simp only [List.length_cons, List.length_nil]; omega)) ?_
  refine OW.q rfl rfl (yq_call rfl rfl (.cons (by (conv => lhs; whnf) <;> rfl) .nil) en100 (fun w hw => sum_calls _ w (by simp; omega) (Cl_gl0 hw hg))) ?_
  refine OW.storeH rfl rfl rfl (by (conv => lhs; whnf) <;> rfl) (by (conv => lhs; whnf) <;> rfl) ti25 (by repeat' first | exact Put.head | apply Put.tail) (hc_length _) ?_
  refine OW.nil ?_
  refine hK2 _ _ ?_
  refine CW.ret ?_
  -- ret (ret)
  rw [shownL_eq]
  exact fin1 (Or.inr rfl) rfl (rv_hash (by decide) (by (conv => lhs; whnf) <;> rfl) ti25 (by repeat' first | exact List.mem_cons_self .. | apply List.mem_cons_of_mem)) (fun w hw => ⟨rfl, hw.sub (List.nil_sublist _)⟩)

theorem secret_c (seed : Bytes) (n j : Nat) (a b : Int) (w : World) (hs : seed.length ≤ 4294967200) (hg : GL w) (hn : n < 2147483648) (hj : j < 512) (ha : a = ((j / 2 : Nat) : Int)) (hb : b = ((j % 2 : Nat) : Int)) :
    Calls Tryd.prog 54 #[.string (bs seed), .int .i64 (n : Int), .int .i64 a, .int .i64 b] w fun e w' => e = .returned (HV (secretN seed n j)) ∧ Cl w [] [] w' := by
  have := secret_calls seed (n : Int) a b w hs hg
  rwa [ha, hb, secretL_in seed n (j / 2) (j % 2) hn (by omega) (by omega), Nat.div_add_mod, ← ha, ← hb] at this
theorem refsecret_c (seed : Bytes) (n j : Nat) (a b : Int) (w : World) (hs : seed.length ≤ 4294967200) (hn : n < 2147483648) (hj : j < 512) (ha : a = ((j / 2 : Nat) : Int)) (hb : b = ((j % 2 : Nat) : Int)) :
    Calls Tryd.prog 55 #[.string (bs seed), .int .i64 (n : Int), .int .i64 a, .int .i64 b] w fun e w' => e = .returned (HV (secretN seed n j)) ∧ Cl w [] [] w' := by
  have := refsecret_calls seed (n : Int) a b w hs
  rwa [ha, hb, secretL_in seed n (j / 2) (j % 2) hn (by omega) (by omega), Nat.div_add_mod, ← ha, ← hb] at this

set_option maxRecDepth 100000 in
set_option maxHeartbeats 1000000 in
theorem public_calls (seed : Bytes) (index : Int) (w : World) (hs : seed.length ≤ 4294967200) (hg : GL w) :
    Calls Tryd.prog 59 #[.string (bs seed), .int .i64 index] w fun e w' => ∃ v L1, e = .returned v ∧ Cl w [] L1 w' ∧ OutHs v L1 (publicR seed index) ∧ (publicR seed index = [] → v = .slice none 0 0) := by
  refine calls_of_CW (L := []) Tryd.func59 rfl (Nat.le_of_ble_eq_true rfl) (Cl.refl _) ?_
  refine CW.seq_k fun K1 hK1 => ?_
  refine CW.region ?_
  refine OW.q rfl rfl (yq_assign rfl (by (conv => lhs; whnf) <;> rfl)) ?_
  refine OW.nil ?_
  refine hK1 _ _ ?_
  refine CW.seq_k fun K2 hK2 => ?_
  refine CW.seq_k fun K3 hK3 => ?_
  refine CW.region ?_
  refine OW.q rfl rfl (yq_move rfl (by (conv => lhs; whnf) <;> rfl)) ?_
  refine OW.qb rfl rfl (yq_lss rfl (by (conv => lhs; whnf) <;> rfl) (by (conv => lhs; whnf) <;> rfl)) (fun b8 hb8 => ?_)
  refine OW.q rfl rfl (yq_move rfl (by (conv => lhs; whnf) <;> rfl)) ?_
  apply OW.segOr 3 [10, 11] 12 hb8
  · intro hb8e
    refine QW.q (by subst hb8e; rfl) rfl (yq_move rfl (by (conv => lhs; whnf) <;> rfl)) ?_
    refine QW.qb (by subst hb8e; rfl) rfl (yq_geq rfl (by (conv => lhs; whnf) <;> rfl) (by (conv => lhs; whnf) <;> rfl)) (fun b11 hb11 => ?_)
    refine QW.q rfl rfl (yq_pick rfl (by (conv => lhs; whnf) <;> rfl) (by subst hb8e; ((conv => lhs; whnf) <;> rfl))) ?_
    exact QW.nil (SegM.mk (any_c (any_c any_n)) (or_run hb8 hb8e hb11))
  · intro hb8e
    refine QW.skip (by subst hb8e; rfl) rfl ?_
    refine QW.skip (by subst hb8e; rfl) rfl ?_
    refine QW.q rfl rfl (yq_pick rfl (by (conv => lhs; whnf) <;> rfl) (by subst hb8e; ((conv => lhs; whnf) <;> rfl))) ?_
    exact QW.nil (SegM.mk (any_c (any_c any_n)) (or_skip hb8 hb8e))
  · intro ρ12 b12 hA hb12
    obtain ⟨x10, x11, rfl⟩ := hA
    refine OW.nil ?_
    refine hK3 _ _ ?_
    refine CW.condq (by (conv => lhs; whnf) <;> rfl) hb12 (fun hc0 => ?_) (fun hc0 => ?_)
    · rw [publicR_bad hc0]
      refine CW.seq_k fun K4 hK4 => ?_
      refine CW.region ?_
      refine OW.q rfl rfl (yq_assign rfl (by (conv => lhs; whnf) <;> rfl)) ?_
      refine OW.nil ?_
      refine hK4 _ _ ?_
      refine CW.ret ?_
      refine then_ret ?_
      -- ret (ret)
      refine fin1 (Or.inr rfl) rfl ⟨by decide, (by (conv => lhs; whnf) <;> rfl)⟩ (fun w hw => ?_)
      exact ⟨_, [.row none 0 0 25 32 []], rfl, nilrow_cl (hw.sub (List.nil_sublist _)) 25 32, ⟨none, 0, rfl, rfl⟩, fun _ => rfl⟩
    · obtain ⟨n, rfl⟩ : ∃ n : Nat, index = (n : Int) := ⟨index.toNat, by omega⟩
      refine CW.skip ?_
      refine hK2 _ _ ?_
      refine CW.seq_k fun K5 hK5 => ?_
      refine CW.region ?_
      refine OW.make (k := 512) rfl rfl rfl (by (conv => lhs; whnf) <;> rfl) (by (conv => lhs; whnf) <;> rfl) ts22 ti25 tz25 (by decide) (by decide) (by decide) (made_hash 512) (fun bm => ?_)
      refine OW.q rfl rfl (yq_assign rfl (by (conv => lhs; whnf) <;> rfl)) ?_
      rw [← fillL_zero (pubL seed n) 512]
      refine OW.nil ?_
      refine hK5 _ _ ?_
      refine CW.seq_k fun K6 hK6 => ?_
      refine CW.seq_k fun K7 hK7 => ?_
      refine CW.region ?_
      refine OW.q rfl rfl (yq_move rfl (by (conv => lhs; whnf) <;> rfl)) ?_
      refine OW.q rfl rfl (yq_len_slice rfl ts22 (by (conv => lhs; whnf) <;> rfl)) ?_
      refine OW.q rfl rfl (yq_move rfl (by (conv => lhs; whnf) <;> rfl)) ?_
      refine OW.nil ?_
      refine hK7 _ _ ?_
      refine CW.block ?_
      refine CW.loop (σ := Nat) (fun j ρ L => Has ρ [(0, .string (bs seed)), (1, .int .i64 (n : Int)), (5, .slice (some ⟨bm, 0, none⟩) 512 512), (14, .slice (some ⟨bm, 0, none⟩) 512 512), (15, .int .i64 512), (16, .int .i64 (j : Int))] ∧ j ≤ 512 ∧ L = [.blk bm ((fillL (pubL seed n) 512 j).flatMap hc) 25 (0, 0)]) (fun j => 512 - j) (0) ?_ ?_
      · exact ⟨Has.mk ⟨(by (conv => lhs; whnf) <;> rfl), (by (conv => lhs; whnf) <;> rfl), (by (conv => lhs; whnf) <;> rfl), (by (conv => lhs; whnf) <;> rfl), (by (conv => lhs; whnf) <;> rfl), (by (conv => lhs; whnf) <;> rfl), trivial⟩, by omega, rfl⟩
      · rintro j _ _ ⟨⟨ρ', rfl⟩, hj, rfl⟩
        refine CW.seq_k fun K8 hK8 => ?_
        refine CW.region ?_
        refine OW.q rfl rfl (yq_lss rfl (by (conv => lhs; whnf) <;> rfl) (by (conv => lhs; whnf) <;> rfl)) ?_
        refine OW.nil ?_
        refine hK8 _ _ ?_
        refine CW.seq_k fun K9 hK9 => ?_
        refine CW.cond_dec (by (conv => lhs; whnf) <;> rfl) (fun hc2 => ?_) (fun hc2 => ?_)
        · have hlt : j < 512 := by omega
          refine CW.skip ?_
          refine hK9 _ _ ?_
          refine CW.seq_k fun K10 hK10 => ?_
          refine CW.block ?_
          refine CW.seq_k fun K11 hK11 => ?_
          refine CW.region ?_
          refine OW.q rfl rfl (yq_move rfl (by (conv => lhs; whnf) <;> rfl)) ?_
          refine OW.q rfl rfl (yq_assign rfl (by (conv => lhs; whnf) <;> rfl)) ?_
          refine OW.nil ?_
          refine hK11 _ _ ?_
          refine CW.region ?_
          refine OW.q rfl rfl (yq_move rfl (by (conv => lhs; whnf) <;> rfl)) ?_
          refine OW.q rfl rfl (yq_move rfl (by (conv => lhs; whnf) <;> rfl)) ?_
          refine OW.q rfl rfl (yq_move rfl (by (conv => lhs; whnf) <;> rfl)) ?_
          refine OW.q rfl rfl (yq_move rfl (by (conv => lhs; whnf) <;> rfl)) ?_
          refine OW.q rfl rfl (yq_move rfl (by (conv => lhs; whnf) <;> rfl)) ?_
          refine OW.q rfl rfl (yq_quo rfl (by (conv => lhs; whnf) <;> rfl) (by (conv => lhs; whnf) <;> rfl) (by omega)) ?_
          refine OW.q rfl rfl (yq_move rfl (by (conv => lhs; whnf) <;> rfl)) ?_
          refine OW.q rfl rfl (yq_rem rfl (by (conv => lhs; whnf) <;> rfl) (by (conv => lhs; whnf) <;> rfl) (by omega)) ?_
          refine OW.q rfl rfl (yq_call rfl rfl (.cons (by (conv => lhs; whnf) <;> rfl) ( .cons (by (conv => lhs; whnf) <;> rfl) ( .cons (by (conv => lhs; whnf) <;> rfl) ( .cons (by (conv => lhs; whnf) <;> rfl) .nil)))) en54 (fun w hw => secret_c seed n j _ _ w hs (Cl_gl0 hw hg) (by omega) hlt (by omega) (by omega))) ?_
          refine OW.q rfl rfl (yq_call rfl rfl (.cons (by (conv => lhs; whnf) <;> rfl) .nil) en103 (fun w hw => hash_calls _ w)) ?_
          refine OW.q rfl rfl (yq_call rfl rfl (.cons (by (conv => lhs; whnf) <;> rfl) .nil) en128 (fun w hw => shown_calls _ w (by rw [hb_length]; omega) (Cl_gl0 hw hg))) ?_
          refine OW.q rfl rfl (yq_index_slice rfl (by (conv => lhs; whnf) <;> rfl) (by (conv => lhs; whnf) <;> rfl) ts22 ti25 (by omega) (by omega)) ?_
          refine OW.store' rfl rfl rfl (by (conv => lhs; whnf) <;> rfl) (by (conv => lhs; whnf) <;> rfl) (vs := hc (shownL (hb (secretN seed n j)))) (by rw [hc_length]; exact ti25) rfl (hc_one _) (by repeat' first | exact Put.head | apply Put.tail) (cs' := ((fillL (pubL seed n) 512 j).set j (shownL (hb (secretN seed n j)))).flatMap hc) (by rw [Nat.zero_add, Int.toNat_natCast]; exact spl_flat (by rw [fillL_length]; exact hlt) _) (by rw [hc_length, flat_length, fillL_length]; omega) ?_
          refine OW.nil ?_
          refine hK10 _ _ ?_
          refine CW.region ?_
          refine OW.q rfl rfl (yq_add rfl (by (conv => lhs; whnf) <;> rfl) (by (conv => lhs; whnf) <;> rfl) (by omega)) ?_
          refine OW.q rfl rfl (yq_move rfl (by (conv => lhs; whnf) <;> rfl)) ?_
          refine OW.nil ?_
          refine ⟨j + 1, ⟨Has.mk ⟨(by (conv => lhs; whnf) <;> rfl), (by (conv => lhs; whnf) <;> rfl), (by (conv => lhs; whnf) <;> rfl), (by (conv => lhs; whnf) <;> rfl), (by (conv => lhs; whnf) <;> rfl), (by (conv => lhs; whnf) <;> rfl), trivial⟩, by omega, ?_⟩, by omega⟩
          rw [← fillL_set _ _ _ hlt, pubL_eq]
        · have hj5 : j = 512 := by omega
          subst hj5
          refine CW.exit ?_
          refine then_exit ?_
          refine then_exit ?_
          refine blockQ_hit ?_
          refine hK6 _ _ ?_
          refine CW.seq_k fun K12 hK12 => ?_
          refine CW.region ?_
          refine OW.q rfl rfl (yq_move rfl (by (conv => lhs; whnf) <;> rfl)) ?_
          refine OW.q rfl rfl (yq_assign rfl (by (conv => lhs; whnf) <;> rfl)) ?_
          refine OW.nil ?_
          refine hK12 _ _ ?_
          refine CW.ret ?_
          -- ret (ret)
          rw [publicL_fill]
          have hR : publicR seed (n : Int) = publicL seed n := publicR_ok hc0
          rw [hR]
          refine fin1 (Or.inr rfl) rfl ⟨by decide, (by (conv => lhs; whnf) <;> rfl)⟩ (fun w hw => ?_)
          refine ⟨_, [.row (some bm) 512 512 25 32 ((publicL seed n).flatMap hc)], rfl, ?_, ⟨some bm, 512, ?_, ?_⟩, fun e => absurd (congrArg List.length e) (by rw [publicL_length]; decide)⟩
          · exact hw.toRow (size := 32) (k := 512) .head (by rw [flat_length, publicL_length]) (by decide)
          · rw [publicL_length]; rfl
          · rw [publicL_length]

set_option maxRecDepth 100000 in
set_option maxHeartbeats 1000000 in
theorem refpublic_calls (seed : Bytes) (index : Int) (w : World) (hs : seed.length ≤ 4294967200) :
    Calls Tryd.prog 58 #[.string (bs seed), .int .i64 index] w fun e w' => ∃ v L1, e = .returned v ∧ Cl w [] L1 w' ∧ OutHs v L1 (publicR seed index) := by
  refine calls_of_CW (L := []) Tryd.func58 rfl (Nat.le_of_ble_eq_true rfl) (Cl.refl _) ?_
  refine CW.seq_k fun K1 hK1 => ?_
  refine CW.region ?_
  refine OW.q rfl rfl (yq_assign rfl (by (conv => lhs; whnf) <;> rfl)) ?_
  refine OW.nil ?_
  refine hK1 _ _ ?_
  refine CW.seq_k fun K2 hK2 => ?_
  refine CW.region ?_
  refine OW.q rfl rfl (yq_assign rfl (by (conv => lhs; whnf) <;> rfl)) ?_
  refine OW.nil ?_
  refine hK2 _ _ ?_
  refine CW.seq_k fun K3 hK3 => ?_
  refine CW.seq_k fun K4 hK4 => ?_
  refine CW.region ?_
  refine OW.q rfl rfl (yq_move rfl (by (conv => lhs; whnf) <;> rfl)) ?_
  refine OW.qb rfl rfl (yq_lss rfl (by (conv => lhs; whnf) <;> rfl) (by (conv => lhs; whnf) <;> rfl)) (fun b10 hb10 => ?_)
  refine OW.q rfl rfl (yq_move rfl (by (conv => lhs; whnf) <;> rfl)) ?_
  apply OW.segOr 3 [12, 13] 14 hb10
  · intro hb10e
    refine QW.q (by subst hb10e; rfl) rfl (yq_move rfl (by (conv => lhs; whnf) <;> rfl)) ?_
    refine QW.qb (by subst hb10e; rfl) rfl (yq_gtr rfl (by (conv => lhs; whnf) <;> rfl) (by (conv => lhs; whnf) <;> rfl)) (fun b13 hb13 => ?_)
    refine QW.q rfl rfl (yq_pick rfl (by (conv => lhs; whnf) <;> rfl) (by subst hb10e; ((conv => lhs; whnf) <;> rfl))) ?_
    exact QW.nil (SegM.mk (any_c (any_c any_n)) (or_run hb10 hb10e hb13))
  · intro hb10e
    refine QW.skip (by subst hb10e; rfl) rfl ?_
    refine QW.skip (by subst hb10e; rfl) rfl ?_
    refine QW.q rfl rfl (yq_pick rfl (by (conv => lhs; whnf) <;> rfl) (by subst hb10e; ((conv => lhs; whnf) <;> rfl))) ?_
    exact QW.nil (SegM.mk (any_c (any_c any_n)) (or_skip hb10 hb10e))
  · intro ρ14 b14 hA hb14
    obtain ⟨x12, x13, rfl⟩ := hA
    refine OW.nil ?_
    refine hK4 _ _ ?_
    refine CW.condq (by (conv => lhs; whnf) <;> rfl) hb14 (fun hc0 => ?_) (fun hc0 => ?_)
    · rw [publicR_bad (by omega)]
      refine CW.seq_k fun K5 hK5 => ?_
      refine CW.region ?_
      refine OW.q rfl rfl (yq_assign rfl (by (conv => lhs; whnf) <;> rfl)) ?_
      refine OW.nil ?_
      refine hK5 _ _ ?_
      refine CW.ret ?_
      refine then_ret ?_
      -- ret (ret)
      refine fin1 (Or.inr rfl) rfl ⟨by decide, (by (conv => lhs; whnf) <;> rfl)⟩ (fun w hw => ?_)
      exact ⟨_, [.row none 0 0 25 32 []], rfl, nilrow_cl (hw.sub (List.nil_sublist _)) 25 32, none, 0, rfl, rfl⟩
    · obtain ⟨n, rfl⟩ : ∃ n : Nat, index = (n : Int) := ⟨index.toNat, by omega⟩
      refine CW.skip ?_
      refine hK3 _ _ ?_
      refine CW.seq_k fun K6 hK6 => ?_
      refine CW.seq_k fun K7 hK7 => ?_
      refine CW.region ?_
      refine OW.nilrow 25 32 ?_
      refine OW.q rfl rfl (yq_assign rfl (by (conv => lhs; whnf) <;> rfl)) ?_
      refine OW.nil ?_
      refine hK7 _ _ ?_
      refine CW.block ?_
      refine CW.loop (σ := Nat) (fun j ρ L => ∃ a cap, Has ρ [(0, .string (bs seed)), (1, .int .i64 (n : Int)), (5, rowV a (2 * j) cap), (6, .int .i64 (j : Int))] ∧ j ≤ 256 ∧ L = [.row a cap (2 * j) 25 32 (((List.range (2 * j)).map (pubL seed n)).flatMap hc)]) (fun j => 256 - j) (0) ?_ ?_
      · exact ⟨none, 0, Has.mk ⟨(by (conv => lhs; whnf) <;> rfl), (by (conv => lhs; whnf) <;> rfl), (by (conv => lhs; whnf) <;> rfl), (by (conv => lhs; whnf) <;> rfl), trivial⟩, by omega, rfl⟩
      · rintro j _ _ ⟨a, cap, ⟨ρ', rfl⟩, hj, rfl⟩
        refine CW.seq_k fun K8 hK8 => ?_
        refine CW.seq_k fun K9 hK9 => ?_
        refine CW.region ?_
        refine OW.q rfl rfl (yq_move rfl (by (conv => lhs; whnf) <;> rfl)) ?_
        refine OW.q rfl rfl (yq_lss rfl (by (conv => lhs; whnf) <;> rfl) (by (conv => lhs; whnf) <;> rfl)) ?_
        refine OW.nil ?_
        refine hK9 _ _ ?_
        refine CW.cond_dec (by (conv => lhs; whnf) <;> rfl) (fun hc2 => ?_) (fun hc2 => ?_)
        · have hlt : j < 256 := by omega
          refine CW.skip ?_
          refine hK8 _ _ ?_
          refine CW.seq_k fun K10 hK10 => ?_
          refine CW.block ?_
          refine CW.seq_k fun K11 hK11 => ?_
          refine CW.region ?_
          refine OW.q rfl rfl (yq_assign rfl (by (conv => lhs; whnf) <;> rfl)) ?_
          refine OW.nil ?_
          refine hK11 _ _ ?_
          refine CW.block ?_
          refine CW.loop (σ := Nat) (fun i ρ L => ∃ a cap, Has ρ [(0, .string (bs seed)), (1, .int .i64 (n : Int)), (5, rowV a (2 * j + i) cap), (6, .int .i64 (j : Int)), (7, .int .i64 (i : Int))] ∧ i ≤ 2 ∧ L = [.row a cap (2 * j + i) 25 32 (((List.range (2 * j + i)).map (pubL seed n)).flatMap hc)]) (fun i => 2 - i) (0) ?_ ?_
          · exact ⟨a, cap, Has.mk ⟨(by (conv => lhs; whnf) <;> rfl), (by (conv => lhs; whnf) <;> rfl), (by (conv => lhs; whnf) <;> rfl), (by (conv => lhs; whnf) <;> rfl), (by (conv => lhs; whnf) <;> rfl), trivial⟩, by omega, rfl⟩
          · clear hc2
            rintro i _ _ ⟨a, cap, ⟨ρ', rfl⟩, hi, rfl⟩
            refine CW.seq_k fun K12 hK12 => ?_
            refine CW.seq_k fun K13 hK13 => ?_
            refine CW.region ?_
            refine OW.q rfl rfl (yq_move rfl (by (conv => lhs; whnf) <;> rfl)) ?_
            refine OW.q rfl rfl (yq_lss rfl (by (conv => lhs; whnf) <;> rfl) (by (conv => lhs; whnf) <;> rfl)) ?_
            refine OW.nil ?_
            refine hK13 _ _ ?_
            refine CW.cond_dec (by (conv => lhs; whnf) <;> rfl) (fun hc5 => ?_) (fun hc5 => ?_)
            · have hlt2 : i < 2 := by omega
              refine CW.skip ?_
              refine hK12 _ _ ?_
              refine CW.seq_k fun K14 hK14 => ?_
              refine CW.block ?_
              refine CW.seq_k fun K15 hK15 => ?_
              refine CW.region ?_
              refine OW.q rfl rfl (yq_move rfl (by (conv => lhs; whnf) <;> rfl)) ?_
              refine OW.q rfl rfl (yq_move rfl (by (conv => lhs; whnf) <;> rfl)) ?_
              refine OW.q rfl rfl (yq_move rfl (by (conv => lhs; whnf) <;> rfl)) ?_
              refine OW.q rfl rfl (yq_move rfl (by (conv => lhs; whnf) <;> rfl)) ?_
              refine OW.q rfl rfl (yq_call rfl rfl (.cons (by (conv => lhs; whnf) <;> rfl) ( .cons (by (conv => lhs; whnf) <;> rfl) ( .cons (by (conv => lhs; whnf) <;> rfl) ( .cons (by (conv => lhs; whnf) <;> rfl) .nil)))) en55 (fun w hw => refsecret_c seed n (2 * j + i) _ _ w hs (by omega) (by omega) (by omega) (by omega))) ?_
              refine OW.alloc rfl rfl rfl tz25 (fun b8 => ?_)
              refine OW.storeH rfl rfl rfl (by (conv => lhs; whnf) <;> rfl) (by (conv => lhs; whnf) <;> rfl) ti25 (by repeat' first | exact Put.head | apply Put.tail) (hc_length _) ?_
              refine OW.nil ?_
              refine hK15 _ _ ?_
              refine CW.region ?_
              refine OW.q rfl rfl (yq_move rfl (by (conv => lhs; whnf) <;> rfl)) ?_
              refine OW.q rfl rfl (yq_slice_arr_all (k := 31) rfl (by (conv => lhs; whnf) <;> rfl) ta25 ti5) ?_
              refine OW.q rfl rfl (yq_conv_bytes (l := hb (secretN seed n (2 * j + i))) rfl ts92 Tryd.underlying5 tt9 (by (conv => lhs; whnf) <;> rfl) (hb_length _) (blk_cells (cs := bc (hb (secretN seed n (2 * j + i)))) (by repeat' first | exact List.mem_cons_self .. | apply List.mem_cons_of_mem))) ?_
              refine OW.q rfl rfl (yq_add_bs (a := [3]) rfl (by (conv => lhs; whnf) <;> rfl) (by (conv => lhs; whnf) <;> rfl) (by rw [hb_length]; simp)) ?_
              refine OW.q rfl rfl (yq_call rfl rfl (.cons (by (conv => lhs; whnf) <;> rfl) .nil) en102 (fun w hw => refsum_calls _ w (by simp [hb_length]))) ?_
              refine OW.slicelit (vs := [HV (sha ([3] ++ hb (secretN seed n (2 * j + i))))]) rfl rfl rfl rfl ts22 ti25 tz25 (by decide) rfl (by decide) (by simp [HV_cells]) (by decide) (cs := hc (sha ([3] ++ hb (secretN seed n (2 * j + i))))) (by simp [HV_cells]) (fun bl => ?_)
              refine OW.append (news := hc (sha ([3] ++ hb (secretN seed n (2 * j + i))))) rfl rfl rfl (by (conv => lhs; whnf) <;> rfl) (by (conv => lhs; whnf) <;> rfl) ts22 ti25 tz25 (by repeat' first | exact Del.head | apply Del.tail) (blk_cells (by repeat' first | exact List.mem_cons_self .. | apply List.mem_cons_of_mem)) (by rw [hc_length]) (hc_one _) (hc_length _) (by decide) (by simp only [maxLen]; omega) (by omega) (fun a' cap' => ?_)
              refine OW.drop (L' := [.row a' cap' (2 * j + i + 1) 25 32 _]) (by repeat' first | exact List.Sublist.refl _ | exact List.nil_sublist _ | apply List.Sublist.cons_cons | apply List.Sublist.cons) ?_
              refine OW.q rfl rfl (yq_assign rfl (by (conv => lhs; whnf) <;> rfl)) ?_
              refine OW.nil ?_
              refine hK14 _ _ ?_
              refine CW.region ?_
              refine OW.q rfl rfl (yq_move rfl (by (conv => lhs; whnf) <;> rfl)) ?_
              refine OW.q rfl rfl (yq_add rfl (by (conv => lhs; whnf) <;> rfl) (by (conv => lhs; whnf) <;> rfl) (by omega)) ?_
              refine OW.q rfl rfl (yq_assign rfl (by (conv => lhs; whnf) <;> rfl)) ?_
              refine OW.nil ?_
              refine ⟨i + 1, ⟨_, _, Has.mk ⟨(by (conv => lhs; whnf) <;> rfl), (by (conv => lhs; whnf) <;> rfl), (by (conv => lhs; whnf) <;> rfl), (by (conv => lhs; whnf) <;> rfl), (by (conv => lhs; whnf) <;> rfl), trivial⟩, by omega, ?_⟩, by omega⟩
              rw [show 2 * j + (i + 1) = (2 * j + i) + 1 by omega, List.range_succ, List.map_append, List.flatMap_append, List.map_singleton, List.flatMap_singleton, pubL_eq, shownL_eq]
            · have hj2 : i = 2 := by omega
              subst hj2
              refine CW.exit ?_
              refine then_exit ?_
              refine then_exit ?_
              refine blockQ_hit ?_
              refine hK10 _ _ ?_
              refine CW.region ?_
              refine OW.q rfl rfl (yq_move rfl (by (conv => lhs; whnf) <;> rfl)) ?_
              refine OW.q rfl rfl (yq_add rfl (by (conv => lhs; whnf) <;> rfl) (by (conv => lhs; whnf) <;> rfl) (by omega)) ?_
              refine OW.q rfl rfl (yq_assign rfl (by (conv => lhs; whnf) <;> rfl)) ?_
              refine OW.nil ?_
              exact ⟨j + 1, ⟨_, _, Has.mk ⟨(by (conv => lhs; whnf) <;> rfl), (by (conv => lhs; whnf) <;> rfl), (by (conv => lhs; whnf) <;> rfl), (by (conv => lhs; whnf) <;> rfl), trivial⟩, by omega, rfl⟩, by omega⟩
        · have hj5 : j = 256 := by omega
          subst hj5
          refine CW.exit ?_
          refine then_exit ?_
          refine then_exit ?_
          refine blockQ_hit ?_
          refine hK6 _ _ ?_
          refine CW.seq_k fun K16 hK16 => ?_
          refine CW.region ?_
          refine OW.q rfl rfl (yq_move rfl (by (conv => lhs; whnf) <;> rfl)) ?_
          refine OW.q rfl rfl (yq_assign rfl (by (conv => lhs; whnf) <;> rfl)) ?_
          refine OW.nil ?_
          refine hK16 _ _ ?_
          refine CW.ret ?_
          -- ret (ret)
          have hR : publicR seed (n : Int) = publicL seed n := publicR_ok (by omega)
          rw [hR]
          refine fin1 (Or.inr rfl) rfl ⟨by decide, (by (conv => lhs; whnf) <;> rfl)⟩ (fun w hw => ?_)
          refine ⟨_, _, rfl, hw, a, cap, ?_, ?_⟩
          · rw [publicL_length]; rfl
          · rw [publicL_length]; unfold publicL; rfl

end Go.Proofs.YtahdekllphehkaaDoor
