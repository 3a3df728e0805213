/- Paths; no statement of the seat is proved here. -/
import Derived.Shelf.SlicesQ.Reverse
import Derived.KernelRfl
import Derived.Test.YtahdekllphehkaaDoorMAh
import Derived.Test.YtahdekllphehkaaDoorMLh
import Derived.Test.YtahdekllphehkaaDoorMSh
set_option linter.unusedVariables false
set_option linter.unusedSimpArgs false
namespace Go.Proofs.YtahdekllphehkaaDoor
open Go.WL Go.Spec Go.Shelf Go.Sort
end Go.Proofs.YtahdekllphehkaaDoor
namespace Go.Proofs.YtahdekllphehkaaDoor
open Go.WL Go.Spec
/-- A list of hashes that was handed out. -/
def OutHs (v : Value) (L1 : List Ent) (l : List Hash) : Prop := ∃ a cap, v = rowV a l.length cap ∧ L1 = [.row a cap l.length 25 32 (l.flatMap hc)]
theorem OutHs.at {w w0 : World} {E : List Nat} {v : Value} {L1 L : List Ent} {l : List Hash} (h : OutHs v L1 l) (hc : Cl w0 E L w) (hs : ∀ x ∈ L1, x ∈ L) : HsAt w v l := by
  obtain ⟨a, cap, rfl, rfl⟩ := h
  exact HsAt.row rfl (hc.own _ (hs _ (List.mem_singleton.2 rfl)))
theorem sliceT {w : World} {b off cap : Nat} {l : List Hash} (h : HsAt w (.slice (some ⟨b, off, none⟩) l.length cap) l) (q : Nat) (hq : q ≤ l.length) : HsAt w (.slice (some ⟨b, if cap = 0 then off else off + 0 * 32, none⟩) (q - 0) (cap - 0)) (l.take q) := by
  have := h.slice 0 q (Nat.zero_le _) hq
  rwa [List.drop_zero] at this
theorem flat_snoc (l : List Hash) (x : Hash) : (l ++ [x]).flatMap hc = l.flatMap hc ++ hc x := by rw [List.flatMap_append, List.flatMap_singleton]
end Go.Proofs.YtahdekllphehkaaDoor
namespace Go.Proofs.YtahdekllphehkaaDoor
open Go.WL Go.Spec
/-- What the document's climbing answers; the path from its end. -/
def comeF (leaf : Hash) : Nat → Nat → List Hash → Hash × Bool
  | _, n, [] => (leaf, decide (n = 1))
  | i, n, x :: r => if n = 1 then (leaf, false) else if i < sp n then (node (comeF leaf i (sp n) r).1 x, (comeF leaf i (sp n) r).2) else (node x (comeF leaf (i - sp n) (n - sp n) r).1, (comeF leaf (i - sp n) (n - sp n) r).2)
theorem comeF_nil (leaf : Hash) (i n : Nat) : comeF leaf i n [] = (leaf, decide (n = 1)) := by rw [comeF]
theorem comeF_one (leaf : Hash) (i : Nat) (x : Hash) (r : List Hash) : comeF leaf i 1 (x :: r) = (leaf, false) := by rw [comeF, if_pos rfl]
theorem comeF_left {leaf : Hash} {i n : Nat} {x : Hash} {r : List Hash} (h : n ≠ 1) (hi : i < sp n) : comeF leaf i n (x :: r) = (node (comeF leaf i (sp n) r).1 x, (comeF leaf i (sp n) r).2) := by rw [comeF, if_neg h, if_pos hi]
theorem comeF_right {leaf : Hash} {i n : Nat} {x : Hash} {r : List Hash} (h : n ≠ 1) (hi : ¬ i < sp n) : comeF leaf i n (x :: r) = (node x (comeF leaf (i - sp n) (n - sp n) r).1, (comeF leaf (i - sp n) (n - sp n) r).2) := by rw [comeF, if_neg h, if_neg hi]
theorem comeR_F (leaf : Hash) (p : List Hash) : ∀ i n, comeR leaf i n p = if (comeF leaf i n p).2 = true then some (comeF leaf i n p).1 else none := by
  induction p with
  | nil =>
    intro i n
    rw [comeF_nil, comeR]
    by_cases h : n = 1 <;> simp [h]
  | cons x r ih =>
    intro i n
    by_cases h : n = 1
    · subst h; rw [comeF_one, comeR]; simp
    · rw [comeR, if_neg h]
      by_cases hi : i < sp n
      · rw [comeF_left h hi, if_pos hi, ih]
        by_cases hb : (comeF leaf i (sp n) r).2 = true <;> simp [hb]
      · rw [comeF_right h hi, if_neg hi, ih]
        by_cases hb : (comeF leaf (i - sp n) (n - sp n) r).2 = true <;> simp [hb]
attribute [irreducible] comeF
def ComeP (m : Nat) : Prop := ∀ (leaf : Hash) (i n : Nat) (p : List Hash) (v : Value) (w : World), p.length < m → p.length ≤ 4294967296 → 1 ≤ n → n ≤ 4294967296 → i < n → HsAt w v p →
    Calls Tryd.prog 120 #[HV leaf, .int .i64 (i : Int), .int .i64 (n : Int), v] w fun e w' => e = .returned (.tuple #[HV (comeF leaf i n p.reverse).1, .bool (comeF leaf i n p.reverse).2]) ∧ Cl w [] [] w'
set_option maxRecDepth 100000 in
set_option maxHeartbeats 1000000 in
theorem come_step (m : Nat) (ih : ComeP m) : ComeP (m + 1) := by
  intro leaf i n p v w hpm hpl hn1 hnl hin hs
  have hs0 := hs
  obtain ⟨a0, cap0, rfl⟩ := hs0.len
  refine calls_of_CW (L := []) Tryd.func120 rfl (Nat.le_of_ble_eq_true rfl) (Cl.refl _) ?_
  refine CW.seq_k fun K1 hK1 => ?_
  refine CW.region ?_
  refine OW.box rfl rfl rfl (by (conv => lhs; whnf) <;> rfl) (by rfl) (fun b4 => ?_)
  refine OW.alloc rfl rfl rfl tz25 (fun b8 => ?_)
  refine OW.q rfl rfl (yq_assign rfl (by (conv => lhs; whnf) <;> rfl)) ?_
  refine OW.nil ?_
  refine hK1 _ _ ?_
  refine CW.seq_k fun K2 hK2 => ?_
  refine CW.seq_k fun K3 hK3 => ?_
  refine CW.region ?_
  refine OW.q rfl rfl (yq_move rfl (by (conv => lhs; whnf) <;> rfl)) ?_
  refine OW.q rfl rfl (yq_eql rfl (by (conv => lhs; whnf) <;> rfl) (by (conv => lhs; whnf) <;> rfl)) ?_
  refine OW.nil ?_
  refine hK3 _ _ ?_
  refine CW.cond_dec (by (conv => lhs; whnf) <;> rfl) (fun hc0 => ?_) (fun hc0 => ?_)
  · refine CW.seq_k fun K4 hK4 => ?_
    refine CW.region ?_
    refine OW.q rfl rfl (yq_loadH rfl (by (conv => lhs; whnf) <;> rfl) ti25 (by repeat' first | exact List.mem_cons_self .. | apply List.mem_cons_of_mem)) ?_
    refine OW.q rfl rfl (yq_move rfl (by (conv => lhs; whnf) <;> rfl)) ?_
    refine OW.q rfl rfl (yq_len_slice rfl ts22 (by (conv => lhs; whnf) <;> rfl)) ?_
    refine OW.q rfl rfl (yq_eql rfl (by (conv => lhs; whnf) <;> rfl) (by (conv => lhs; whnf) <;> rfl)) ?_
    refine OW.storeH rfl rfl rfl (by (conv => lhs; whnf) <;> rfl) (by (conv => lhs; whnf) <;> rfl) ti25 (by repeat' first | exact Put.head | apply Put.tail) (hc_length _) ?_
    refine OW.q rfl rfl (yq_assign rfl (by (conv => lhs; whnf) <;> rfl)) ?_
    refine OW.nil ?_
    refine hK4 _ _ ?_
    refine CW.ret ?_
    refine then_ret ?_
    -- ret (ret)
    have hn : n = 1 := by omega
    subst hn
    have hF : comeF leaf i 1 p.reverse = (leaf, decide ((p.length : Int) = 0)) := by
      cases hp : p.reverse with
      | nil =>
        have : p = [] := by simpa using hp
        subst this; rw [comeF_nil]; rfl
      | cons x r =>
        have : p.length ≠ 0 := by
          intro h0
          rw [List.eq_nil_of_length_eq_zero h0] at hp
          cases hp
        rw [comeF_one, decide_eq_false (by omega)]
    rw [hF]
    exact fin2 (Or.inr rfl) rfl (rv_hash (by decide) (by (conv => lhs; whnf) <;> rfl) ti25 (List.mem_cons_self ..)) ⟨by decide, (by (conv => lhs; whnf) <;> rfl)⟩ (fun w hw => ⟨rfl, hw.sub (by simp)⟩)
  · refine CW.skip ?_
    refine hK2 _ _ ?_
    refine CW.seq_k fun K5 hK5 => ?_
    refine CW.seq_k fun K6 hK6 => ?_
    refine CW.region ?_
    refine OW.q rfl rfl (yq_move rfl (by (conv => lhs; whnf) <;> rfl)) ?_
    refine OW.q rfl rfl (yq_len_slice rfl ts22 (by (conv => lhs; whnf) <;> rfl)) ?_
    refine OW.q rfl rfl (yq_eql rfl (by (conv => lhs; whnf) <;> rfl) (by (conv => lhs; whnf) <;> rfl)) ?_
    refine OW.nil ?_
    refine hK6 _ _ ?_
    refine CW.cond_dec (by (conv => lhs; whnf) <;> rfl) (fun hc1 => ?_) (fun hc1 => ?_)
    · refine CW.seq_k fun K7 hK7 => ?_
      refine CW.region ?_
      refine OW.q rfl rfl (yq_loadH rfl (by (conv => lhs; whnf) <;> rfl) ti25 (by repeat' first | exact List.mem_cons_self .. | apply List.mem_cons_of_mem)) ?_
      refine OW.storeH rfl rfl rfl (by (conv => lhs; whnf) <;> rfl) (by (conv => lhs; whnf) <;> rfl) ti25 (by repeat' first | exact Put.head | apply Put.tail) (hc_length _) ?_
      refine OW.q rfl rfl (yq_assign rfl (by (conv => lhs; whnf) <;> rfl)) ?_
      refine OW.nil ?_
      refine hK7 _ _ ?_
      refine CW.ret ?_
      refine then_ret ?_
      -- ret (ret)
      have hp0 : p = [] := List.eq_nil_of_length_eq_zero (by omega)
      subst hp0
      rw [List.reverse_nil, comeF_nil, decide_eq_false (show ¬ n = 1 by omega)]
      exact fin2 (Or.inr rfl) rfl (rv_hash (by decide) (by (conv => lhs; whnf) <;> rfl) ti25 (List.mem_cons_self ..)) ⟨by decide, (by (conv => lhs; whnf) <;> rfl)⟩ (fun w hw => ⟨rfl, hw.sub (by simp)⟩)
    · obtain ⟨r, x, rfl⟩ : ∃ r x, p = r ++ [x] := by
        rcases List.eq_nil_or_concat p with h | ⟨r, x, h⟩
        · subst h; exact absurd rfl hc1
        · exact ⟨r, x, by simpa using h⟩
      have hrv : (r ++ [x]).reverse = x :: r.reverse := by simp
      have hpl1 : (r ++ [x]).length = r.length + 1 := by simp
      obtain ⟨b, off, cp, hv, hcp⟩ := hs.place (by simp)
      rw [Value.slice.injEq] at hv
      obtain ⟨rfl, _, rfl⟩ := hv
      have hsr := sliceT hs r.length (by omega)
      rw [List.take_left' rfl] at hsr
      have hq2 : 2 ≤ n := by omega
      have hk1 := sp_pos hq2
      have hk2 := sp_lt hq2
      obtain ⟨q, hq⟩ : ∃ q, q = sp n := ⟨_, rfl⟩
      rw [← hq] at hk1 hk2
      have hsp : spI (n : Int) = (q : Int) := by rw [spI_nat, hq]
      have hl1 : ((r ++ [x]).length : Int) - 1 = (r.length : Int) := by omega
      refine CW.skip ?_
      refine hK5 _ _ ?_
      refine CW.cutR (fun ρ L => ∃ b4 b8 b11, Has ρ [(1, .int .i64 (i : Int)), (2, .int .i64 (n : Int)), (3, .slice (some ⟨b, off, none⟩) (r ++ [x]).length cap0), (4, .pointer (some ⟨b4, 0, none⟩)), (8, .pointer (some ⟨b8, 0, none⟩)), (10, .int .i64 (q : Int)), (11, .pointer (some ⟨b11, 0, none⟩))] ∧ L = [.blk b11 (hc x) 25 (0, 0), .blk b8 (hc zeroHash) 25 (0, 0), .blk b4 (hc leaf) 25 (0, 0)]) ?_ ?_
      · refine CW.heldL mixed ?_
        refine HW.take 0 rfl (by kernel_rfl) (by kernel_rfl) (by kernel_rfl) rfl rfl (by repeat' first | exact List.Sublist.refl _ | exact List.nil_sublist _ | apply List.Sublist.cons) (yv_of_yq rfl (yq_move rfl (by (conv => lhs; whnf) <;> rfl))) ?_
        refine HW.take 2 rfl (by kernel_rfl) (by kernel_rfl) (by kernel_rfl) rfl rfl (by repeat' first | exact List.Sublist.refl _ | exact List.nil_sublist _ | apply List.Sublist.cons) (yv_of_yq rfl (yq_move rfl (by (conv => lhs; whnf) <;> rfl))) ?_
        refine HW.take 3 rfl (by kernel_rfl) (by kernel_rfl) (by kernel_rfl) rfl rfl (by repeat' first | exact List.Sublist.refl _ | exact List.nil_sublist _ | apply List.Sublist.cons) (yv_of_yq rfl (yq_move rfl (by (conv => lhs; whnf) <;> rfl))) ?_
        refine HW.take 4 rfl (by kernel_rfl) (by kernel_rfl) (by kernel_rfl) rfl rfl (by repeat' first | exact List.Sublist.refl _ | exact List.nil_sublist _ | apply List.Sublist.cons) (yv_len_slice rfl ts22 (by (conv => lhs; whnf) <;> rfl)) ?_
        refine HW.take 5 rfl (by kernel_rfl) (by kernel_rfl) (by kernel_rfl) rfl rfl (by repeat' first | exact List.Sublist.refl _ | exact List.nil_sublist _ | apply List.Sublist.cons) (yv_of_yq rfl (yq_sub_e (r := (r.length : Int)) rfl (by (conv => lhs; whnf) <;> rfl) (by (conv => lhs; whnf) <;> rfl) (by rw [hl1, wrap64_in (by omega)]))) ?_
        refine HW.take 6 rfl (by kernel_rfl) (by kernel_rfl) (by kernel_rfl) rfl rfl (by repeat' first | exact List.Sublist.refl _ | exact List.nil_sublist _ | apply List.Sublist.cons) (yv_of_yq rfl (yq_index_slice rfl (by (conv => lhs; whnf) <;> rfl) (by (conv => lhs; whnf) <;> rfl) ts22 ti25 (by omega) (by omega))) ?_
        refine HW.take 7 rfl (by kernel_rfl) (by kernel_rfl) (by kernel_rfl) rfl rfl (by repeat' first | exact List.Sublist.refl _ | exact List.nil_sublist _ | apply List.Sublist.cons) (yv_of_yq rfl (yq_load_hs (i := r.length) (v := x) rfl (by (conv => lhs; whnf) <;> rfl) ti25 (fun w hw => hs.mono hw) (by simp))) ?_
        refine HW.two 1 8 (by kernel_rfl) rfl rfl ?_ ?_
        · refine OW.q rfl rfl (yq_call rfl rfl (.cons (by (conv => lhs; whnf) <;> rfl) .nil) en39 (fun w hw => rsplit_c _ _ w hsp (by omega) (by omega))) ?_
          refine OW.nil ⟨rfl, (by repeat' first | exact List.Sublist.refl _ | exact List.nil_sublist _ | apply List.Sublist.cons), ?_⟩
          refine HW.one 8 (by kernel_rfl) rfl ?_
          refine OW.alloc rfl rfl rfl tz25 (fun b11 => ?_)
          refine OW.nil ⟨rfl, (by repeat' first | exact List.Sublist.refl _ | exact List.nil_sublist _ | apply List.Sublist.cons), ?_⟩
          refine HW.take 9 rfl (by kernel_rfl) (by kernel_rfl) (by kernel_rfl) rfl rfl (by repeat' first | exact List.Sublist.refl _ | exact List.nil_sublist _ | apply List.Sublist.cons) (yv_of_yq rfl (yq_assign rfl (by (conv => lhs; whnf) <;> rfl))) ?_
          refine HW.one 10 (by kernel_rfl) rfl ?_
          refine OW.storeH rfl rfl rfl (by (conv => lhs; whnf) <;> rfl) (by (conv => lhs; whnf) <;> rfl) ti25 (by repeat' first | exact Put.head | apply Put.tail) (hc_length _) ?_
          refine OW.nil ⟨rfl, (by repeat' first | exact List.Sublist.refl _ | exact List.nil_sublist _ | apply List.Sublist.cons), ?_⟩
          refine HW.done (by kernel_rfl) ?_
          exact ⟨rfl, _, _, _, Has.mk ⟨(by (conv => lhs; whnf) <;> rfl), (by (conv => lhs; whnf) <;> rfl), (by (conv => lhs; whnf) <;> rfl), (by (conv => lhs; whnf) <;> rfl), (by (conv => lhs; whnf) <;> rfl), (by (conv => lhs; whnf) <;> rfl), (by (conv => lhs; whnf) <;> rfl), trivial⟩, rfl⟩
        · refine OW.alloc rfl rfl rfl tz25 (fun b11 => ?_)
          refine OW.nil ⟨rfl, (by repeat' first | exact List.Sublist.refl _ | exact List.nil_sublist _ | apply List.Sublist.cons), ?_⟩
          refine HW.one 1 (by kernel_rfl) rfl ?_
          refine OW.q rfl rfl (yq_call rfl rfl (.cons (by (conv => lhs; whnf) <;> rfl) .nil) en39 (fun w hw => rsplit_c _ _ w hsp (by omega) (by omega))) ?_
          refine OW.nil ⟨rfl, (by repeat' first | exact List.Sublist.refl _ | exact List.nil_sublist _ | apply List.Sublist.cons), ?_⟩
          refine HW.take 9 rfl (by kernel_rfl) (by kernel_rfl) (by kernel_rfl) rfl rfl (by repeat' first | exact List.Sublist.refl _ | exact List.nil_sublist _ | apply List.Sublist.cons) (yv_of_yq rfl (yq_assign rfl (by (conv => lhs; whnf) <;> rfl))) ?_
          refine HW.one 10 (by kernel_rfl) rfl ?_
          refine OW.storeH rfl rfl rfl (by (conv => lhs; whnf) <;> rfl) (by (conv => lhs; whnf) <;> rfl) ti25 (by repeat' first | exact Put.head | apply Put.tail) (hc_length _) ?_
          refine OW.nil ⟨rfl, (by repeat' first | exact List.Sublist.refl _ | exact List.nil_sublist _ | apply List.Sublist.cons), ?_⟩
          refine HW.done (by kernel_rfl) ?_
          exact ⟨rfl, _, _, _, Has.mk ⟨(by (conv => lhs; whnf) <;> rfl), (by (conv => lhs; whnf) <;> rfl), (by (conv => lhs; whnf) <;> rfl), (by (conv => lhs; whnf) <;> rfl), (by (conv => lhs; whnf) <;> rfl), (by (conv => lhs; whnf) <;> rfl), (by (conv => lhs; whnf) <;> rfl), trivial⟩, rfl⟩
      · rintro _ _ ⟨b4, b8, b11, ⟨ρ', rfl⟩, rfl⟩
        refine CW.seq_k fun K8 hK8 => ?_
        refine CW.region ?_
        refine OW.q rfl rfl (yq_move rfl (by (conv => lhs; whnf) <;> rfl)) ?_
        refine OW.q rfl rfl (yq_move rfl (by (conv => lhs; whnf) <;> rfl)) ?_
        refine OW.q rfl rfl (yq_len_slice rfl ts22 (by (conv => lhs; whnf) <;> rfl)) ?_
        refine OW.q rfl rfl (yq_sub_e (r := (r.length : Int)) rfl (by (conv => lhs; whnf) <;> rfl) (by (conv => lhs; whnf) <;> rfl) (by rw [hl1, wrap64_in (by omega)])) ?_
        refine OW.q rfl rfl (yq_slice_slice (l := 0) (h := r.length) rfl (by (conv => lhs; whnf) <;> rfl) ts22 ti25 rfl ⟨_, _, (by (conv => lhs; whnf) <;> rfl), by omega, by omega⟩ (by omega) (by omega)) ?_
        refine OW.q rfl rfl (yq_assign rfl (by (conv => lhs; whnf) <;> rfl)) ?_
        refine OW.nil ?_
        refine hK8 _ _ ?_
        refine CW.seq_k fun K9 hK9 => ?_
        refine CW.seq_k fun K10 hK10 => ?_
        refine CW.region ?_
        refine OW.q rfl rfl (yq_move rfl (by (conv => lhs; whnf) <;> rfl)) ?_
        refine OW.q rfl rfl (yq_move rfl (by (conv => lhs; whnf) <;> rfl)) ?_
        refine OW.q rfl rfl (yq_lss rfl (by (conv => lhs; whnf) <;> rfl) (by (conv => lhs; whnf) <;> rfl)) ?_
        refine OW.nil ?_
        refine hK10 _ _ ?_
        refine CW.cond_dec (by (conv => lhs; whnf) <;> rfl) (fun hc2 => ?_) (fun hc2 => ?_)
        · have hlt : i < q := by omega
          refine CW.seq_k fun K11 hK11 => ?_
          refine CW.region ?_
          refine OW.q rfl rfl (yq_loadH rfl (by (conv => lhs; whnf) <;> rfl) ti25 (by repeat' first | exact List.mem_cons_self .. | apply List.mem_cons_of_mem)) ?_
          refine OW.q rfl rfl (yq_move rfl (by (conv => lhs; whnf) <;> rfl)) ?_
          refine OW.q rfl rfl (yq_move rfl (by (conv => lhs; whnf) <;> rfl)) ?_
          refine OW.q rfl rfl (yq_move rfl (by (conv => lhs; whnf) <;> rfl)) ?_
          refine OW.q rfl rfl (yq_call rfl rfl (.cons (by (conv => lhs; whnf) <;> rfl) ( .cons (by (conv => lhs; whnf) <;> rfl) ( .cons (by (conv => lhs; whnf) <;> rfl) ( .cons (by (conv => lhs; whnf) <;> rfl) .nil)))) en120 (fun w hw => ih leaf i q r _ w (by omega) (by omega) (by omega) (by omega) hlt (hsr.mono hw))) ?_
          refine OW.q rfl rfl (yq_move rfl (by (conv => lhs; whnf) <;> rfl)) ?_
          refine OW.q rfl rfl (yq_extract rfl (by (conv => lhs; whnf) <;> rfl) rfl) ?_
          refine OW.q rfl rfl (yq_extract rfl (by (conv => lhs; whnf) <;> rfl) rfl) ?_
          refine OW.alloc rfl rfl rfl tz25 (fun b13 => ?_)
          refine OW.storeH rfl rfl rfl (by (conv => lhs; whnf) <;> rfl) (by (conv => lhs; whnf) <;> rfl) ti25 (by repeat' first | exact Put.head | apply Put.tail) (hc_length _) ?_
          refine OW.q rfl rfl (yq_assign rfl (by (conv => lhs; whnf) <;> rfl)) ?_
          refine OW.nil ?_
          refine hK11 _ _ ?_
          refine CW.seq_k fun K12 hK12 => ?_
          refine CW.region ?_
          refine OW.q rfl rfl (yq_loadH rfl (by (conv => lhs; whnf) <;> rfl) ti25 (by repeat' first | exact List.mem_cons_self .. | apply List.mem_cons_of_mem)) ?_
          refine OW.q rfl rfl (yq_loadH rfl (by (conv => lhs; whnf) <;> rfl) ti25 (by repeat' first | exact List.mem_cons_self .. | apply List.mem_cons_of_mem)) ?_
          refine OW.q rfl rfl (yq_call rfl rfl (.cons (by (conv => lhs; whnf) <;> rfl) ( .cons (by (conv => lhs; whnf) <;> rfl) .nil)) en38 (fun w hw => refnode_calls _ _ w)) ?_
          refine OW.q rfl rfl (yq_move rfl (by (conv => lhs; whnf) <;> rfl)) ?_
          refine OW.storeH rfl rfl rfl (by (conv => lhs; whnf) <;> rfl) (by (conv => lhs; whnf) <;> rfl) ti25 (by repeat' first | exact Put.head | apply Put.tail) (hc_length _) ?_
          refine OW.q rfl rfl (yq_assign rfl (by (conv => lhs; whnf) <;> rfl)) ?_
          refine OW.nil ?_
          refine hK12 _ _ ?_
          refine CW.ret ?_
          refine then_ret ?_
          -- ret (ret)
          rw [hrv, comeF_left (by omega) (by rw [← hq]; exact hlt), ← hq]
          exact fin2 (Or.inr rfl) rfl (rv_hash (by decide) (by (conv => lhs; whnf) <;> rfl) ti25 (List.mem_cons_of_mem _ (List.mem_cons_of_mem _ (List.mem_cons_self ..)))) ⟨by decide, (by (conv => lhs; whnf) <;> rfl)⟩ (fun w hw => ⟨rfl, hw.sub (by simp)⟩)
        · have hlt : ¬ i < q := by omega
          have hiq : (i : Int) - (q : Int) = ((i - q : Nat) : Int) := by omega
          have hnq : (n : Int) - (q : Int) = ((n - q : Nat) : Int) := by omega
          refine CW.skip ?_
          refine hK9 _ _ ?_
          refine CW.seq_k fun K13 hK13 => ?_
          refine CW.region ?_
          refine OW.q rfl rfl (yq_loadH rfl (by (conv => lhs; whnf) <;> rfl) ti25 (by repeat' first | exact List.mem_cons_self .. | apply List.mem_cons_of_mem)) ?_
          refine OW.q rfl rfl (yq_move rfl (by (conv => lhs; whnf) <;> rfl)) ?_
          refine OW.q rfl rfl (yq_move rfl (by (conv => lhs; whnf) <;> rfl)) ?_
          refine OW.q rfl rfl (yq_sub_e (r := ((i - q : Nat) : Int)) rfl (by (conv => lhs; whnf) <;> rfl) (by (conv => lhs; whnf) <;> rfl) (by rw [hiq, wrap64_in (by omega)])) ?_
          refine OW.q rfl rfl (yq_move rfl (by (conv => lhs; whnf) <;> rfl)) ?_
          refine OW.q rfl rfl (yq_move rfl (by (conv => lhs; whnf) <;> rfl)) ?_
          refine OW.q rfl rfl (yq_sub_e (r := ((n - q : Nat) : Int)) rfl (by (conv => lhs; whnf) <;> rfl) (by (conv => lhs; whnf) <;> rfl) (by rw [hnq, wrap64_in (by omega)])) ?_
          refine OW.q rfl rfl (yq_move rfl (by (conv => lhs; whnf) <;> rfl)) ?_
          refine OW.q rfl rfl (yq_call rfl rfl (.cons (by (conv => lhs; whnf) <;> rfl) ( .cons (by (conv => lhs; whnf) <;> rfl) ( .cons (by (conv => lhs; whnf) <;> rfl) ( .cons (by (conv => lhs; whnf) <;> rfl) .nil)))) en120 (fun w hw => ih leaf (i - q) (n - q) r _ w (by omega) (by omega) (by omega) (by omega) (by omega) (hsr.mono hw))) ?_
          refine OW.q rfl rfl (yq_move rfl (by (conv => lhs; whnf) <;> rfl)) ?_
          refine OW.q rfl rfl (yq_extract rfl (by (conv => lhs; whnf) <;> rfl) rfl) ?_
          refine OW.q rfl rfl (yq_extract rfl (by (conv => lhs; whnf) <;> rfl) rfl) ?_
          refine OW.alloc rfl rfl rfl tz25 (fun b15 => ?_)
          refine OW.storeH rfl rfl rfl (by (conv => lhs; whnf) <;> rfl) (by (conv => lhs; whnf) <;> rfl) ti25 (by repeat' first | exact Put.head | apply Put.tail) (hc_length _) ?_
          refine OW.q rfl rfl (yq_assign rfl (by (conv => lhs; whnf) <;> rfl)) ?_
          refine OW.nil ?_
          refine hK13 _ _ ?_
          refine CW.seq_k fun K14 hK14 => ?_
          refine CW.region ?_
          refine OW.q rfl rfl (yq_loadH rfl (by (conv => lhs; whnf) <;> rfl) ti25 (by repeat' first | exact List.mem_cons_self .. | apply List.mem_cons_of_mem)) ?_
          refine OW.q rfl rfl (yq_loadH rfl (by (conv => lhs; whnf) <;> rfl) ti25 (by repeat' first | exact List.mem_cons_self .. | apply List.mem_cons_of_mem)) ?_
          refine OW.q rfl rfl (yq_call rfl rfl (.cons (by (conv => lhs; whnf) <;> rfl) ( .cons (by (conv => lhs; whnf) <;> rfl) .nil)) en38 (fun w hw => refnode_calls _ _ w)) ?_
          refine OW.q rfl rfl (yq_move rfl (by (conv => lhs; whnf) <;> rfl)) ?_
          refine OW.storeH rfl rfl rfl (by (conv => lhs; whnf) <;> rfl) (by (conv => lhs; whnf) <;> rfl) ti25 (by repeat' first | exact Put.head | apply Put.tail) (hc_length _) ?_
          refine OW.q rfl rfl (yq_assign rfl (by (conv => lhs; whnf) <;> rfl)) ?_
          refine OW.nil ?_
          refine hK14 _ _ ?_
          refine CW.ret ?_
          -- ret (ret)
          rw [hrv, comeF_right (by omega) (by rw [← hq]; exact hlt), ← hq]
          exact fin2 (Or.inr rfl) rfl (rv_hash (by decide) (by (conv => lhs; whnf) <;> rfl) ti25 (List.mem_cons_of_mem _ (List.mem_cons_of_mem _ (List.mem_cons_self ..)))) ⟨by decide, (by (conv => lhs; whnf) <;> rfl)⟩ (fun w hw => ⟨rfl, hw.sub (by simp)⟩)
theorem come_calls (leaf : Hash) (i n : Nat) (p : List Hash) (v : Value) (w : World) (hpl : p.length ≤ 4294967296) (hn1 : 1 ≤ n) (hnl : n ≤ 4294967296) (hin : i < n) (hs : HsAt w v p) :
    Calls Tryd.prog 120 #[HV leaf, .int .i64 (i : Int), .int .i64 (n : Int), v] w fun e w' => e = .returned (.tuple #[HV (comeF leaf i n p.reverse).1, .bool (comeF leaf i n p.reverse).2]) ∧ Cl w [] [] w' := by
  have : ∀ m, ComeP m := by
    intro m
    induction m with
    | zero => intro leaf i n p v w h; omega
    | succ m ih => exact come_step m ih
  exact this (p.length + 1) leaf i n p v w (by omega) hpl hn1 hnl hin hs
/-- Whether a leaf is checked. -/
def checkL (leaf : Hash) (i n : Int) (p : List Hash) (root : Hash) : Int := if ((n < 1 ∨ 4096 < n) ∨ i < 0) ∨ n ≤ i then 2 else if comeR leaf i.toNat n.toNat p.reverse = some root then 0 else 80
theorem checkL_bad {leaf : Hash} {i n : Int} {p : List Hash} {root : Hash} (h : ((n < 1 ∨ 4096 < n) ∨ i < 0) ∨ n ≤ i) : checkL leaf i n p root = 2 := if_pos h
theorem checkL_in {leaf : Hash} {i n : Nat} {p : List Hash} {root : Hash} (h : ¬ ((((n : Int) < 1 ∨ 4096 < (n : Int)) ∨ (i : Int) < 0) ∨ (n : Int) ≤ (i : Int))) : checkL leaf i n p root = if comeR leaf i n p.reverse = some root then 0 else 80 := by
  unfold checkL
  rw [if_neg h]
  simp
set_option maxRecDepth 100000 in
set_option maxHeartbeats 1000000 in
theorem rcheck_calls (leaf root : Hash) (i n : Int) (p : List Hash) (v : Value) (w : World) (hpl : p.length ≤ 4294967296) (hs : HsAt w v p) :
    Calls Tryd.prog 50 #[HV leaf, .int .i64 i, .int .i64 n, v, HV root] w fun e w' => e = .returned (.int .i64 (checkL leaf i n p root)) ∧ Cl w [] [] w' := by
  refine calls_of_CW (L := []) Tryd.func50 rfl (Nat.le_of_ble_eq_true rfl) (Cl.refl _) ?_
  refine CW.seq_k fun K1 hK1 => ?_
  refine CW.region ?_
  refine OW.box rfl rfl rfl (by (conv => lhs; whnf) <;> rfl) (by rfl) (fun b5 => ?_)
  refine OW.box rfl rfl rfl (by (conv => lhs; whnf) <;> rfl) (by rfl) (fun b9 => ?_)
  refine OW.q rfl rfl (yq_assign rfl (by (conv => lhs; whnf) <;> rfl)) ?_
  refine OW.nil ?_
  refine hK1 _ _ ?_
  refine CW.seq_k fun K2 hK2 => ?_
  refine CW.seq_k fun K3 hK3 => ?_
  refine CW.region ?_
  refine OW.q rfl rfl (yq_move rfl (by (conv => lhs; whnf) <;> rfl)) ?_
  refine OW.qb rfl rfl (yq_lss rfl (by (conv => lhs; whnf) <;> rfl) (by (conv => lhs; whnf) <;> rfl)) (fun b14 hb14 => ?_)
  refine OW.q rfl rfl (yq_move rfl (by (conv => lhs; whnf) <;> rfl)) ?_
  apply OW.segOr 3 [16, 17] 18 hb14
  · intro hb14e
    refine QW.q (by subst hb14e; rfl) rfl (yq_move rfl (by (conv => lhs; whnf) <;> rfl)) ?_
    refine QW.qb (by subst hb14e; rfl) rfl (yq_gtr rfl (by (conv => lhs; whnf) <;> rfl) (by (conv => lhs; whnf) <;> rfl)) (fun b17 hb17 => ?_)
    refine QW.q rfl rfl (yq_pick rfl (by (conv => lhs; whnf) <;> rfl) (by subst hb14e; ((conv => lhs; whnf) <;> rfl))) ?_
    exact QW.nil (SegM.mk (any_c (any_c any_n)) (or_run hb14 hb14e hb17))
  · intro hb14e
    refine QW.skip (by subst hb14e; rfl) rfl ?_
    refine QW.skip (by subst hb14e; rfl) rfl ?_
    refine QW.q rfl rfl (yq_pick rfl (by (conv => lhs; whnf) <;> rfl) (by subst hb14e; ((conv => lhs; whnf) <;> rfl))) ?_
    exact QW.nil (SegM.mk (any_c (any_c any_n)) (or_skip hb14 hb14e))
  · intro ρ18 b18 hA hb18
    obtain ⟨x16, x17, rfl⟩ := hA
    refine OW.q rfl rfl (yq_move rfl (by (conv => lhs; whnf) <;> rfl)) ?_
    apply OW.segOr 3 [20, 21] 22 hb18
    · intro hb18e
      refine QW.q (by subst hb18e; rfl) rfl (yq_move rfl (by (conv => lhs; whnf) <;> rfl)) ?_
      refine QW.qb (by subst hb18e; rfl) rfl (yq_lss rfl (by (conv => lhs; whnf) <;> rfl) (by (conv => lhs; whnf) <;> rfl)) (fun b21 hb21 => ?_)
      refine QW.q rfl rfl (yq_pick rfl (by (conv => lhs; whnf) <;> rfl) (by subst hb18e; ((conv => lhs; whnf) <;> rfl))) ?_
      exact QW.nil (SegM.mk (any_c (any_c any_n)) (or_run hb18 hb18e hb21))
    · intro hb18e
      refine QW.skip (by subst hb18e; rfl) rfl ?_
      refine QW.skip (by subst hb18e; rfl) rfl ?_
      refine QW.q rfl rfl (yq_pick rfl (by (conv => lhs; whnf) <;> rfl) (by subst hb18e; ((conv => lhs; whnf) <;> rfl))) ?_
      exact QW.nil (SegM.mk (any_c (any_c any_n)) (or_skip hb18 hb18e))
    · intro ρ22 b22 hA hb22
      obtain ⟨x20, x21, rfl⟩ := hA
      refine OW.q rfl rfl (yq_move rfl (by (conv => lhs; whnf) <;> rfl)) ?_
      apply OW.segOr 4 [24, 25, 26] 27 hb22
      · intro hb22e
        refine QW.q (by subst hb22e; rfl) rfl (yq_move rfl (by (conv => lhs; whnf) <;> rfl)) ?_
        refine QW.q (by subst hb22e; rfl) rfl (yq_move rfl (by (conv => lhs; whnf) <;> rfl)) ?_
        refine QW.qb (by subst hb22e; rfl) rfl (yq_geq rfl (by (conv => lhs; whnf) <;> rfl) (by (conv => lhs; whnf) <;> rfl)) (fun b26 hb26 => ?_)
        refine QW.q rfl rfl (yq_pick rfl (by (conv => lhs; whnf) <;> rfl) (by subst hb22e; ((conv => lhs; whnf) <;> rfl))) ?_
        exact QW.nil (SegM.mk (any_c (any_c (any_c any_n))) (or_run hb22 hb22e hb26))
      · intro hb22e
        refine QW.skip (by subst hb22e; rfl) rfl ?_
        refine QW.skip (by subst hb22e; rfl) rfl ?_
        refine QW.skip (by subst hb22e; rfl) rfl ?_
        refine QW.q rfl rfl (yq_pick rfl (by (conv => lhs; whnf) <;> rfl) (by subst hb22e; ((conv => lhs; whnf) <;> rfl))) ?_
        exact QW.nil (SegM.mk (any_c (any_c (any_c any_n))) (or_skip hb22 hb22e))
      · intro ρ27 b27 hA hb27
        obtain ⟨x24, x25, x26, rfl⟩ := hA
        refine OW.nil ?_
        refine hK3 _ _ ?_
        refine CW.condq (by (conv => lhs; whnf) <;> rfl) hb27 (fun hc0 => ?_) (fun hc0 => ?_)
        · refine CW.seq_k fun K4 hK4 => ?_
          refine CW.region ?_
          refine OW.q rfl rfl (yq_assign rfl (by (conv => lhs; whnf) <;> rfl)) ?_
          refine OW.nil ?_
          refine hK4 _ _ ?_
          refine CW.ret ?_
          refine then_ret ?_
          -- ret (ret)
          rw [checkL_bad hc0]
          exact fin1 (Or.inr rfl) rfl ⟨by decide, (by (conv => lhs; whnf) <;> rfl)⟩ (fun w hw => ⟨rfl, hw.sub (by simp)⟩)
        · obtain ⟨k, rfl⟩ : ∃ k : Nat, i = (k : Int) := ⟨i.toNat, by omega⟩
          obtain ⟨m, rfl⟩ : ∃ m : Nat, n = (m : Int) := ⟨n.toNat, by omega⟩
          have hR := comeR_F leaf p.reverse k m
          obtain ⟨F, hF⟩ : ∃ F, F = comeF leaf k m p.reverse := ⟨_, rfl⟩
          rw [← hF] at hR
          refine CW.skip ?_
          refine hK2 _ _ ?_
          refine CW.seq_k fun K5 hK5 => ?_
          refine CW.region ?_
          refine OW.q rfl rfl (yq_loadH rfl (by (conv => lhs; whnf) <;> rfl) ti25 (by repeat' first | exact List.mem_cons_self .. | apply List.mem_cons_of_mem)) ?_
          refine OW.q rfl rfl (yq_move rfl (by (conv => lhs; whnf) <;> rfl)) ?_
          refine OW.q rfl rfl (yq_move rfl (by (conv => lhs; whnf) <;> rfl)) ?_
          refine OW.q rfl rfl (yq_move rfl (by (conv => lhs; whnf) <;> rfl)) ?_
          refine OW.q rfl rfl (yq_call rfl rfl (.cons (by (conv => lhs; whnf) <;> rfl) ( .cons (by (conv => lhs; whnf) <;> rfl) ( .cons (by (conv => lhs; whnf) <;> rfl) ( .cons (by (conv => lhs; whnf) <;> rfl) .nil)))) en120 (fun w hw => by have := come_calls leaf k m p _ w hpl (by omega) (by omega) (by omega) (hs.mono hw); rw [← hF] at this; exact this)) ?_
          refine OW.q rfl rfl (yq_move rfl (by (conv => lhs; whnf) <;> rfl)) ?_
          refine OW.q rfl rfl (yq_extract rfl (by (conv => lhs; whnf) <;> rfl) rfl) ?_
          refine OW.q rfl rfl (yq_extract rfl (by (conv => lhs; whnf) <;> rfl) rfl) ?_
          refine OW.alloc rfl rfl rfl tz25 (fun b11 => ?_)
          refine OW.storeH rfl rfl rfl (by (conv => lhs; whnf) <;> rfl) (by (conv => lhs; whnf) <;> rfl) ti25 (by repeat' first | exact Put.head | apply Put.tail) (hc_length _) ?_
          refine OW.q rfl rfl (yq_assign rfl (by (conv => lhs; whnf) <;> rfl)) ?_
          refine OW.nil ?_
          refine hK5 _ _ ?_
          refine CW.seq_k fun K6 hK6 => ?_
          refine CW.seq_k fun K7 hK7 => ?_
          refine CW.region ?_
          refine OW.q rfl rfl (yq_move rfl (by (conv => lhs; whnf) <;> rfl)) ?_
          refine OW.qn rfl rfl (yq_not rfl (by (conv => lhs; whnf) <;> rfl)) (Iff.refl _) (fun b37 hb37 => ?_)
          refine OW.q rfl rfl (yq_move rfl (by (conv => lhs; whnf) <;> rfl)) ?_
          apply OW.segOr 4 [39, 40, 41] 42 hb37
          · intro hb37e
            refine QW.q (by subst hb37e; rfl) rfl (yq_loadH rfl (by (conv => lhs; whnf) <;> rfl) ti25 (by repeat' first | exact List.mem_cons_self .. | apply List.mem_cons_of_mem)) ?_
            refine QW.q (by subst hb37e; rfl) rfl (yq_loadH rfl (by (conv => lhs; whnf) <;> rfl) ti25 (by repeat' first | exact List.mem_cons_self .. | apply List.mem_cons_of_mem)) ?_
            refine QW.qb (by subst hb37e; rfl) rfl (yq_neq_H rfl (by (conv => lhs; whnf) <;> rfl) (by (conv => lhs; whnf) <;> rfl) ta25 Tryd.underlying5 ti5 eg25) (fun b41 hb41 => ?_)
            refine QW.q rfl rfl (yq_pick rfl (by (conv => lhs; whnf) <;> rfl) (by subst hb37e; ((conv => lhs; whnf) <;> rfl))) ?_
            exact QW.nil (SegM.mk (any_c (any_c (any_c any_n))) (or_run hb37 hb37e hb41))
          · intro hb37e
            refine QW.skip (by subst hb37e; rfl) rfl ?_
            refine QW.skip (by subst hb37e; rfl) rfl ?_
            refine QW.skip (by subst hb37e; rfl) rfl ?_
            refine QW.q rfl rfl (yq_pick rfl (by (conv => lhs; whnf) <;> rfl) (by subst hb37e; ((conv => lhs; whnf) <;> rfl))) ?_
            exact QW.nil (SegM.mk (any_c (any_c (any_c any_n))) (or_skip hb37 hb37e))
          · intro ρ42 b42 hA hb42
            obtain ⟨x39, x40, x41, rfl⟩ := hA
            refine OW.nil ?_
            refine hK7 _ _ ?_
            refine CW.condq (by (conv => lhs; whnf) <;> rfl) hb42 (fun hc1 => ?_) (fun hc1 => ?_)
            · refine CW.seq_k fun K8 hK8 => ?_
              refine CW.region ?_
              refine OW.q rfl rfl (yq_assign rfl (by (conv => lhs; whnf) <;> rfl)) ?_
              refine OW.nil ?_
              refine hK8 _ _ ?_
              refine CW.ret ?_
              refine then_ret ?_
              -- ret (ret)
              rw [checkL_in hc0, hR, if_neg (by
                rcases hc1 with h | h
                · rw [if_neg h]; simp
                · split
                  · simpa using h
                  · simp)]
              exact fin1 (Or.inr rfl) rfl ⟨by decide, (by (conv => lhs; whnf) <;> rfl)⟩ (fun w hw => ⟨rfl, hw.sub (by simp)⟩)
            · refine CW.skip ?_
              refine hK6 _ _ ?_
              refine CW.seq_k fun K9 hK9 => ?_
              refine CW.region ?_
              refine OW.q rfl rfl (yq_assign rfl (by (conv => lhs; whnf) <;> rfl)) ?_
              refine OW.nil ?_
              refine hK9 _ _ ?_
              refine CW.ret ?_
              -- ret (ret)
              rw [checkL_in hc0, hR, if_pos (by
                have h1 : F.2 = true := Decidable.byContradiction fun h => hc1 (.inl h)
                have h2 : F.1 = root := Decidable.byContradiction fun h => hc1 (.inr h)
                rw [if_pos h1, h2])]
              exact fin1 (Or.inr rfl) rfl ⟨by decide, (by (conv => lhs; whnf) <;> rfl)⟩ (fun w hw => ⟨rfl, hw.sub (by simp)⟩)
end Go.Proofs.YtahdekllphehkaaDoor
namespace Go.Proofs.YtahdekllphehkaaDoor
open Go.WL Go.Spec
theorem drop_getD {l : List Hash} {j : Nat} (h : j < l.length) : l.drop j = l.getD j zeroHash :: l.drop (j + 1) := by
  rw [List.drop_eq_getElem_cons h, List.getD_eq_getElem?_getD, List.getElem?_eq_getElem h]; rfl
theorem chk_fin {lf : Hash} {i la j : Nat} {p : List Hash} (hj : j ≤ p.length) (h : la = 0 ∨ j = p.length) : chk lf i la (p.drop j) = if la = 0 ∧ j = p.length then some lf else none := by
  rcases Nat.lt_or_ge j p.length with h1 | h1
  · rw [drop_getD h1, if_neg (by omega)]
    have : la = 0 := by omega
    subst this
    exact chk_done ..
  · rw [List.drop_eq_nil_of_le h1, chk_nil]
    by_cases hl : la = 0
    · rw [if_pos hl, if_pos ⟨hl, by omega⟩]
    · rw [if_neg hl, if_neg (fun h => hl h.1)]
set_option maxRecDepth 100000 in
set_option maxHeartbeats 1000000 in
theorem check_calls (leaf root : Hash) (i n : Int) (p : List Hash) (v : Value) (w : World) (hpl : p.length ≤ 4294967296) (hs : HsAt w v p) (hg : GL w) :
    Calls Tryd.prog 49 #[HV leaf, .int .i64 i, .int .i64 n, v, HV root] w fun e w' => e = .returned (.int .i64 (checkL leaf i n p root)) ∧ Cl w [] [] w' := by
  have hs0 := hs
  obtain ⟨a0, cap0, rfl⟩ := hs0.len
  refine calls_of_CW (L := []) Tryd.func49 rfl (Nat.le_of_ble_eq_true rfl) (Cl.refl _) ?_
  refine CW.seq_k fun K1 hK1 => ?_
  refine CW.region ?_
  refine OW.box rfl rfl rfl (by (conv => lhs; whnf) <;> rfl) (by rfl) (fun b5 => ?_)
  refine OW.box rfl rfl rfl (by (conv => lhs; whnf) <;> rfl) (by rfl) (fun b9 => ?_)
  refine OW.q rfl rfl (yq_assign rfl (by (conv => lhs; whnf) <;> rfl)) ?_
  refine OW.nil ?_
  refine hK1 _ _ ?_
  refine CW.scope ?_
  refine CW.seq_k fun K2 hK2 => ?_
  refine CW.seq_k fun K3 hK3 => ?_
  refine CW.region ?_
  refine OW.q rfl rfl (yq_move rfl (by (conv => lhs; whnf) <;> rfl)) ?_
  refine OW.qb rfl rfl (yq_lss rfl (by (conv => lhs; whnf) <;> rfl) (by (conv => lhs; whnf) <;> rfl)) (fun b16 hb16 => ?_)
  refine OW.q rfl rfl (yq_move rfl (by (conv => lhs; whnf) <;> rfl)) ?_
  apply OW.segOr 3 [18, 19] 20 hb16
  · intro hb16e
    refine QW.q (by subst hb16e; rfl) rfl (yq_move rfl (by (conv => lhs; whnf) <;> rfl)) ?_
    refine QW.qb (by subst hb16e; rfl) rfl (yq_gtr rfl (by (conv => lhs; whnf) <;> rfl) (by (conv => lhs; whnf) <;> rfl)) (fun b19 hb19 => ?_)
    refine QW.q rfl rfl (yq_pick rfl (by (conv => lhs; whnf) <;> rfl) (by subst hb16e; ((conv => lhs; whnf) <;> rfl))) ?_
    exact QW.nil (SegM.mk (any_c (any_c any_n)) (or_run hb16 hb16e hb19))
  · intro hb16e
    refine QW.skip (by subst hb16e; rfl) rfl ?_
    refine QW.skip (by subst hb16e; rfl) rfl ?_
    refine QW.q rfl rfl (yq_pick rfl (by (conv => lhs; whnf) <;> rfl) (by subst hb16e; ((conv => lhs; whnf) <;> rfl))) ?_
    exact QW.nil (SegM.mk (any_c (any_c any_n)) (or_skip hb16 hb16e))
  · intro ρ20 b20 hA hb20
    obtain ⟨x18, x19, rfl⟩ := hA
    refine OW.q rfl rfl (yq_move rfl (by (conv => lhs; whnf) <;> rfl)) ?_
    apply OW.segOr 3 [22, 23] 24 hb20
    · intro hb20e
      refine QW.q (by subst hb20e; rfl) rfl (yq_move rfl (by (conv => lhs; whnf) <;> rfl)) ?_
      refine QW.qb (by subst hb20e; rfl) rfl (yq_lss rfl (by (conv => lhs; whnf) <;> rfl) (by (conv => lhs; whnf) <;> rfl)) (fun b23 hb23 => ?_)
      refine QW.q rfl rfl (yq_pick rfl (by (conv => lhs; whnf) <;> rfl) (by subst hb20e; ((conv => lhs; whnf) <;> rfl))) ?_
      exact QW.nil (SegM.mk (any_c (any_c any_n)) (or_run hb20 hb20e hb23))
    · intro hb20e
      refine QW.skip (by subst hb20e; rfl) rfl ?_
      refine QW.skip (by subst hb20e; rfl) rfl ?_
      refine QW.q rfl rfl (yq_pick rfl (by (conv => lhs; whnf) <;> rfl) (by subst hb20e; ((conv => lhs; whnf) <;> rfl))) ?_
      exact QW.nil (SegM.mk (any_c (any_c any_n)) (or_skip hb20 hb20e))
    · intro ρ24 b24 hA hb24
      obtain ⟨x22, x23, rfl⟩ := hA
      refine OW.q rfl rfl (yq_move rfl (by (conv => lhs; whnf) <;> rfl)) ?_
      apply OW.segOr 4 [26, 27, 28] 29 hb24
      · intro hb24e
        refine QW.q (by subst hb24e; rfl) rfl (yq_move rfl (by (conv => lhs; whnf) <;> rfl)) ?_
        refine QW.q (by subst hb24e; rfl) rfl (yq_move rfl (by (conv => lhs; whnf) <;> rfl)) ?_
        refine QW.qb (by subst hb24e; rfl) rfl (yq_geq rfl (by (conv => lhs; whnf) <;> rfl) (by (conv => lhs; whnf) <;> rfl)) (fun b28 hb28 => ?_)
        refine QW.q rfl rfl (yq_pick rfl (by (conv => lhs; whnf) <;> rfl) (by subst hb24e; ((conv => lhs; whnf) <;> rfl))) ?_
        exact QW.nil (SegM.mk (any_c (any_c (any_c any_n))) (or_run hb24 hb24e hb28))
      · intro hb24e
        refine QW.skip (by subst hb24e; rfl) rfl ?_
        refine QW.skip (by subst hb24e; rfl) rfl ?_
        refine QW.skip (by subst hb24e; rfl) rfl ?_
        refine QW.q rfl rfl (yq_pick rfl (by (conv => lhs; whnf) <;> rfl) (by subst hb24e; ((conv => lhs; whnf) <;> rfl))) ?_
        exact QW.nil (SegM.mk (any_c (any_c (any_c any_n))) (or_skip hb24 hb24e))
      · intro ρ29 b29 hA hb29
        obtain ⟨x26, x27, x28, rfl⟩ := hA
        refine OW.nil ?_
        refine hK3 _ _ ?_
        refine CW.condq (by (conv => lhs; whnf) <;> rfl) hb29 (fun hc0 => ?_) (fun hc0 => ?_)
        · refine CW.seq_k fun K4 hK4 => ?_
          refine CW.region ?_
          refine OW.q rfl rfl (yq_assign rfl (by (conv => lhs; whnf) <;> rfl)) ?_
          refine OW.nil ?_
          refine hK4 _ _ ?_
          refine CW.ret ?_
          refine then_ret ?_
          refine noGoto_ret ?_
          -- ret (ret)
          rw [checkL_bad hc0]
          exact fin1 (Or.inr rfl) rfl ⟨by decide, (by (conv => lhs; whnf) <;> rfl)⟩ (fun w hw => ⟨rfl, hw.sub (List.nil_sublist _)⟩)
        · obtain ⟨k, rfl⟩ : ∃ k : Nat, i = (k : Int) := ⟨i.toNat, by omega⟩
          obtain ⟨m, rfl⟩ : ∃ m : Nat, n = (m : Int) := ⟨n.toNat, by omega⟩
          have hcome : chk leaf k (m - 1) p = comeR leaf k m p.reverse := by have := chk_come m leaf k p.reverse (by omega) (by omega); rwa [List.reverse_reverse] at this
          refine CW.skip ?_
          refine hK2 _ _ ?_
          refine CW.seq_k fun K5 hK5 => ?_
          refine CW.region ?_
          refine OW.q rfl rfl (yq_move rfl (by (conv => lhs; whnf) <;> rfl)) ?_
          refine OW.q rfl rfl (yq_sub_e (r := ((m - 1 : Nat) : Int)) rfl (by (conv => lhs; whnf) <;> rfl) (by (conv => lhs; whnf) <;> rfl) (by rw [wrap64_in (by omega)]; omega)) ?_
          refine OW.q rfl rfl (yq_assign rfl (by (conv => lhs; whnf) <;> rfl)) ?_
          refine OW.nil ?_
          refine hK5 _ _ ?_
          refine CW.seq_k fun K6 hK6 => ?_
          refine CW.region ?_
          refine OW.q rfl rfl (yq_assign rfl (by (conv => lhs; whnf) <;> rfl)) ?_
          refine OW.nil ?_
          refine hK6 _ _ ?_
          refine CW.seq_k fun K7 hK7 => ?_
          refine CW.label ?_
          refine hK7 _ _ ?_
          refine CW.seq_k fun K8 hK8 => ?_
          refine CW.seq_k fun K9 hK9 => ?_
          refine CW.region ?_
          refine OW.q rfl rfl (yq_move rfl (by (conv => lhs; whnf) <;> rfl)) ?_
          refine OW.q rfl rfl (yq_len_slice rfl ts22 (by (conv => lhs; whnf) <;> rfl)) ?_
          refine OW.q rfl rfl (yq_move rfl (by (conv => lhs; whnf) <;> rfl)) ?_
          refine OW.nil ?_
          refine hK9 _ _ ?_
          refine CW.block ?_
          refine CW.loop (σ := Hash × Nat × Nat × Nat) (fun q ρ L => match q with | (lf, i, la, j) => Has ρ [(1, .int .i64 (i : Int)), (11, .int .i64 (la : Int)), (3, .slice a0 p.length cap0), (5, .pointer (some ⟨b5, 0, none⟩)), (9, .pointer (some ⟨b9, 0, none⟩)), (12, .int .i64 (j : Int)), (32, .slice a0 p.length cap0), (33, .int .i64 (p.length : Int)), (34, .int .i64 (j : Int))] ∧ j ≤ p.length ∧ i ≤ la ∧ la ≤ 4096 ∧ chk leaf k (m - 1) p = chk lf i la (p.drop j) ∧ L = [.blk b9 (hc root) 25 (0, 0), .blk b5 (hc lf) 25 (0, 0)]) (fun q => p.length - q.2.2.2) ((leaf, k, m - 1, 0)) ?_ ?_
          · exact ⟨Has.mk ⟨(by (conv => lhs; whnf) <;> rfl), (by (conv => lhs; whnf) <;> rfl), (by (conv => lhs; whnf) <;> rfl), (by (conv => lhs; whnf) <;> rfl), (by (conv => lhs; whnf) <;> rfl), (by (conv => lhs; whnf) <;> rfl), (by (conv => lhs; whnf) <;> rfl), (by (conv => lhs; whnf) <;> rfl), (by (conv => lhs; whnf) <;> rfl), trivial⟩, Nat.zero_le _, by omega, by omega, rfl, rfl⟩
          · rintro ⟨lf, i, la, j⟩ _ _ ⟨⟨ρ', rfl⟩, hj, hila, hla, hch, rfl⟩
            refine CW.seq_k fun K10 hK10 => ?_
            refine CW.region ?_
            refine OW.q rfl rfl (yq_lss rfl (by (conv => lhs; whnf) <;> rfl) (by (conv => lhs; whnf) <;> rfl)) ?_
            refine OW.nil ?_
            refine hK10 _ _ ?_
            refine CW.seq_k fun K11 hK11 => ?_
            refine CW.cond_dec (by (conv => lhs; whnf) <;> rfl) (fun hc2 => ?_) (fun hc2 => ?_)
            · have hlt : j < p.length := by omega
              obtain ⟨x, hx⟩ : ∃ x, x = p.getD j zeroHash := ⟨_, rfl⟩
              have hd : p.drop j = x :: p.drop (j + 1) := by rw [hx]; exact drop_getD hlt
              obtain ⟨b, off, cp, hv, hcp⟩ := hs.place (fun e => by subst e; simp at hlt)
              rw [Value.slice.injEq] at hv
              obtain ⟨rfl, _, rfl⟩ := hv
              refine CW.skip ?_
              refine hK11 _ _ ?_
              refine CW.seq_k fun K12 hK12 => ?_
              refine CW.block ?_
              refine CW.seq_k fun K13 hK13 => ?_
              refine CW.region ?_
              refine OW.q rfl rfl (yq_index_slice rfl (by (conv => lhs; whnf) <;> rfl) (by (conv => lhs; whnf) <;> rfl) ts22 ti25 (by omega) (by omega)) ?_
              refine OW.q rfl rfl (yq_load_hs (i := j) (v := x) rfl (by (conv => lhs; whnf) <;> rfl) ti25 (fun w hw => hs.mono hw) (by rw [hx]; exact at_of_lt hlt)) ?_
              refine OW.alloc rfl rfl rfl tz25 (fun b14 => ?_)
              refine OW.storeH rfl rfl rfl (by (conv => lhs; whnf) <;> rfl) (by (conv => lhs; whnf) <;> rfl) ti25 (by repeat' first | exact Put.head | apply Put.tail) (hc_length _) ?_
              refine OW.nil ?_
              refine hK13 _ _ ?_
              refine CW.seq_k fun K14 hK14 => ?_
              refine CW.seq_k fun K15 hK15 => ?_
              refine CW.region ?_
              refine OW.q rfl rfl (yq_move rfl (by (conv => lhs; whnf) <;> rfl)) ?_
              refine OW.q rfl rfl (yq_eql rfl (by (conv => lhs; whnf) <;> rfl) (by (conv => lhs; whnf) <;> rfl)) ?_
              refine OW.nil ?_
              refine hK15 _ _ ?_
              refine CW.cond_dec (by (conv => lhs; whnf) <;> rfl) (fun hc4 => ?_) (fun hc4 => ?_)
              · have hfin : la = 0 ∨ j = p.length := .inl (by omega)
                refine CW.exit ?_
                refine then_exit ?_
                refine blockQ_miss rfl ?_
                refine then_exit ?_
                refine then_exit ?_
                refine blockQ_hit ?_
                refine hK8 _ _ ?_
                refine CW.seq_k fun K16 hK16 => ?_
                refine CW.seq_k fun K17 hK17 => ?_
                refine CW.region ?_
                refine OW.q rfl rfl (yq_move rfl (by (conv => lhs; whnf) <;> rfl)) ?_
                refine OW.qb rfl rfl (yq_neq rfl (by (conv => lhs; whnf) <;> rfl) (by (conv => lhs; whnf) <;> rfl)) (fun b73 hb73 => ?_)
                refine OW.q rfl rfl (yq_move rfl (by (conv => lhs; whnf) <;> rfl)) ?_
                apply OW.segOr 5 [75, 76, 77, 78] 79 hb73
                · intro hb73e
                  refine QW.q (by subst hb73e; rfl) rfl (yq_move rfl (by (conv => lhs; whnf) <;> rfl)) ?_
                  refine QW.q (by subst hb73e; rfl) rfl (yq_move rfl (by (conv => lhs; whnf) <;> rfl)) ?_
                  refine QW.q (by subst hb73e; rfl) rfl (yq_len_slice rfl ts22 (by (conv => lhs; whnf) <;> rfl)) ?_
                  refine QW.qb (by subst hb73e; rfl) rfl (yq_neq rfl (by (conv => lhs; whnf) <;> rfl) (by (conv => lhs; whnf) <;> rfl)) (fun b78 hb78 => ?_)
                  refine QW.q rfl rfl (yq_pick rfl (by (conv => lhs; whnf) <;> rfl) (by subst hb73e; ((conv => lhs; whnf) <;> rfl))) ?_
                  exact QW.nil (SegM.mk (any_c (any_c (any_c (any_c any_n)))) (or_run hb73 hb73e hb78))
                · intro hb73e
                  refine QW.skip (by subst hb73e; rfl) rfl ?_
                  refine QW.skip (by subst hb73e; rfl) rfl ?_
                  refine QW.skip (by subst hb73e; rfl) rfl ?_
                  refine QW.skip (by subst hb73e; rfl) rfl ?_
                  refine QW.q rfl rfl (yq_pick rfl (by (conv => lhs; whnf) <;> rfl) (by subst hb73e; ((conv => lhs; whnf) <;> rfl))) ?_
                  exact QW.nil (SegM.mk (any_c (any_c (any_c (any_c any_n)))) (or_skip hb73 hb73e))
                · intro ρ79 b79 hA hb79
                  obtain ⟨x75, x76, x77, x78, rfl⟩ := hA
                  refine OW.q rfl rfl (yq_move rfl (by (conv => lhs; whnf) <;> rfl)) ?_
                  apply OW.segOr 4 [81, 82, 83] 84 hb79
                  · intro hb79e
                    refine QW.q (by subst hb79e; rfl) rfl (yq_loadH rfl (by (conv => lhs; whnf) <;> rfl) ti25 (by repeat' first | exact List.mem_cons_self .. | apply List.mem_cons_of_mem)) ?_
                    refine QW.q (by subst hb79e; rfl) rfl (yq_loadH rfl (by (conv => lhs; whnf) <;> rfl) ti25 (by repeat' first | exact List.mem_cons_self .. | apply List.mem_cons_of_mem)) ?_
                    refine QW.qb (by subst hb79e; rfl) rfl (yq_neq_H rfl (by (conv => lhs; whnf) <;> rfl) (by (conv => lhs; whnf) <;> rfl) ta25 Tryd.underlying5 ti5 eg25) (fun b83 hb83 => ?_)
                    refine QW.q rfl rfl (yq_pick rfl (by (conv => lhs; whnf) <;> rfl) (by subst hb79e; ((conv => lhs; whnf) <;> rfl))) ?_
                    exact QW.nil (SegM.mk (any_c (any_c (any_c any_n))) (or_run hb79 hb79e hb83))
                  · intro hb79e
                    refine QW.skip (by subst hb79e; rfl) rfl ?_
                    refine QW.skip (by subst hb79e; rfl) rfl ?_
                    refine QW.skip (by subst hb79e; rfl) rfl ?_
                    refine QW.q rfl rfl (yq_pick rfl (by (conv => lhs; whnf) <;> rfl) (by subst hb79e; ((conv => lhs; whnf) <;> rfl))) ?_
                    exact QW.nil (SegM.mk (any_c (any_c (any_c any_n))) (or_skip hb79 hb79e))
                  · intro ρ84 b84 hA hb84
                    obtain ⟨x81, x82, x83, rfl⟩ := hA
                    refine OW.nil ?_
                    refine hK17 _ _ ?_
                    refine CW.condq (by (conv => lhs; whnf) <;> rfl) hb84 (fun hc9 => ?_) (fun hc9 => ?_)
                    · refine CW.seq_k fun K18 hK18 => ?_
                      refine CW.region ?_
                      refine OW.q rfl rfl (yq_assign rfl (by (conv => lhs; whnf) <;> rfl)) ?_
                      refine OW.nil ?_
                      refine hK18 _ _ ?_
                      refine CW.ret ?_
                      refine then_ret ?_
                      refine noGoto_ret ?_
                      -- ret (ret)
                      rw [checkL_in hc0, ← hcome, hch, chk_fin hj hfin, if_neg (by
                        rcases hc9 with h | h
                        · rw [if_neg (by omega)]; simp
                        · split
                          · simpa using h
                          · simp)]
                      exact fin1 (Or.inr rfl) rfl ⟨by decide, (by (conv => lhs; whnf) <;> rfl)⟩ (fun w hw => ⟨rfl, hw.sub (List.nil_sublist _)⟩)
                    · refine CW.skip ?_
                      refine hK16 _ _ ?_
                      refine CW.seq_k fun K19 hK19 => ?_
                      refine CW.region ?_
                      refine OW.q rfl rfl (yq_assign rfl (by (conv => lhs; whnf) <;> rfl)) ?_
                      refine OW.nil ?_
                      refine hK19 _ _ ?_
                      refine CW.ret ?_
                      refine noGoto_ret ?_
                      -- ret (ret)
                      rw [checkL_in hc0, ← hcome, hch, chk_fin hj hfin, if_pos (by
                        have h1 : ¬ ((la : Int) ≠ 0 ∨ (j : Int) ≠ (p.length : Int)) := fun h => hc9 (.inl h)
                        have h2 : lf = root := Decidable.byContradiction fun h => hc9 (.inr h)
                        rw [if_pos (by omega), h2])]
                      exact fin1 (Or.inr rfl) rfl ⟨by decide, (by (conv => lhs; whnf) <;> rfl)⟩ (fun w hw => ⟨rfl, hw.sub (List.nil_sublist _)⟩)
              · refine CW.skip ?_
                refine hK14 _ _ ?_
                refine CW.seq_k fun K20 hK20 => ?_
                refine CW.seq_k fun K21 hK21 => ?_
                refine CW.region ?_
                refine OW.q rfl rfl (yq_move rfl (by (conv => lhs; whnf) <;> rfl)) ?_
                refine OW.q rfl rfl (yq_rem rfl (by (conv => lhs; whnf) <;> rfl) (by (conv => lhs; whnf) <;> rfl) (by omega)) ?_
                refine OW.qb rfl rfl (yq_eql rfl (by (conv => lhs; whnf) <;> rfl) (by (conv => lhs; whnf) <;> rfl)) (fun b42 hb42 => ?_)
                refine OW.q rfl rfl (yq_move rfl (by (conv => lhs; whnf) <;> rfl)) ?_
                apply OW.segOr 4 [44, 45, 46] 47 hb42
                · intro hb42e
                  refine QW.q (by subst hb42e; rfl) rfl (yq_move rfl (by (conv => lhs; whnf) <;> rfl)) ?_
                  refine QW.q (by subst hb42e; rfl) rfl (yq_move rfl (by (conv => lhs; whnf) <;> rfl)) ?_
                  refine QW.qb (by subst hb42e; rfl) rfl (yq_eql rfl (by (conv => lhs; whnf) <;> rfl) (by (conv => lhs; whnf) <;> rfl)) (fun b46 hb46 => ?_)
                  refine QW.q rfl rfl (yq_pick rfl (by (conv => lhs; whnf) <;> rfl) (by subst hb42e; ((conv => lhs; whnf) <;> rfl))) ?_
                  exact QW.nil (SegM.mk (any_c (any_c (any_c any_n))) (or_run hb42 hb42e hb46))
                · intro hb42e
                  refine QW.skip (by subst hb42e; rfl) rfl ?_
                  refine QW.skip (by subst hb42e; rfl) rfl ?_
                  refine QW.skip (by subst hb42e; rfl) rfl ?_
                  refine QW.q rfl rfl (yq_pick rfl (by (conv => lhs; whnf) <;> rfl) (by subst hb42e; ((conv => lhs; whnf) <;> rfl))) ?_
                  exact QW.nil (SegM.mk (any_c (any_c (any_c any_n))) (or_skip hb42 hb42e))
                · intro ρ47 b47 hA hb47
                  obtain ⟨x44, x45, x46, rfl⟩ := hA
                  refine OW.nil ?_
                  refine hK21 _ _ ?_
                  refine CW.condq (by (conv => lhs; whnf) <;> rfl) hb47 (fun hc5 => ?_) (fun hc5 => ?_)
                  · have hc5 : i % 2 = 1 ∨ i = la := by omega
                    refine CW.seq_k fun K22 hK22 => ?_
                    refine CW.region ?_
                    refine OW.q rfl rfl (yq_loadH rfl (by (conv => lhs; whnf) <;> rfl) ti25 (by repeat' first | exact List.mem_cons_self .. | apply List.mem_cons_of_mem)) ?_
                    refine OW.q rfl rfl (yq_loadH rfl (by (conv => lhs; whnf) <;> rfl) ti25 (by repeat' first | exact List.mem_cons_self .. | apply List.mem_cons_of_mem)) ?_
                    refine OW.q rfl rfl (yq_call rfl rfl (.cons (by (conv => lhs; whnf) <;> rfl) ( .cons (by (conv => lhs; whnf) <;> rfl) .nil)) en27 (fun w hw => node_calls _ _ w (Cl_gl0 hw hg))) ?_
                    refine OW.storeH rfl rfl rfl (by (conv => lhs; whnf) <;> rfl) (by (conv => lhs; whnf) <;> rfl) ti25 (by repeat' first | exact Put.head | apply Put.tail) (hc_length _) ?_
                    refine OW.nil ?_
                    refine hK22 _ _ ?_
                    refine CW.block ?_
                    refine CW.loop (σ := Nat × Nat) (fun q ρ L => match q with | (i1, la1) => Has ρ [(1, .int .i64 (i1 : Int)), (11, .int .i64 (la1 : Int)), (3, .slice (some ⟨b, off, none⟩) p.length cap0), (5, .pointer (some ⟨b5, 0, none⟩)), (9, .pointer (some ⟨b9, 0, none⟩)), (12, .int .i64 (j : Int)), (32, .slice (some ⟨b, off, none⟩) p.length cap0), (33, .int .i64 (p.length : Int)), (34, .int .i64 (j : Int))] ∧ strip i la = strip i1 la1 ∧ i1 ≤ la1 ∧ la1 ≤ la ∧ L = [.blk b14 (hc x) 25 (0, 0), .blk b9 (hc root) 25 (0, 0), .blk b5 (hc (node x lf)) 25 (0, 0)]) (fun q => q.1) ((i, la)) ?_ ?_
                    · exact ⟨Has.mk ⟨(by (conv => lhs; whnf) <;> rfl), (by (conv => lhs; whnf) <;> rfl), (by (conv => lhs; whnf) <;> rfl), (by (conv => lhs; whnf) <;> rfl), (by (conv => lhs; whnf) <;> rfl), (by (conv => lhs; whnf) <;> rfl), (by (conv => lhs; whnf) <;> rfl), (by (conv => lhs; whnf) <;> rfl), (by (conv => lhs; whnf) <;> rfl), trivial⟩, rfl, hila, Nat.le_refl _, rfl⟩
                    · rintro ⟨i2, la2⟩ _ _ ⟨⟨ρ', rfl⟩, hst, hil2, hla2, rfl⟩
                      refine CW.seq_k fun K23 hK23 => ?_
                      refine CW.seq_k fun K24 hK24 => ?_
                      refine CW.region ?_
                      refine OW.q rfl rfl (yq_move rfl (by (conv => lhs; whnf) <;> rfl)) ?_
                      refine OW.q rfl rfl (yq_rem rfl (by (conv => lhs; whnf) <;> rfl) (by (conv => lhs; whnf) <;> rfl) (by omega)) ?_
                      refine OW.qb rfl rfl (yq_eql rfl (by (conv => lhs; whnf) <;> rfl) (by (conv => lhs; whnf) <;> rfl)) (fun b53 hb53 => ?_)
                      refine OW.q rfl rfl (yq_move rfl (by (conv => lhs; whnf) <;> rfl)) ?_
                      apply OW.segAnd 3 [55, 56] 57 hb53
                      · intro hb53e
                        refine QW.q (by subst hb53e; rfl) rfl (yq_move rfl (by (conv => lhs; whnf) <;> rfl)) ?_
                        refine QW.qb (by subst hb53e; rfl) rfl (yq_gtr rfl (by (conv => lhs; whnf) <;> rfl) (by (conv => lhs; whnf) <;> rfl)) (fun b56 hb56 => ?_)
                        refine QW.q rfl rfl (yq_pick rfl (by (conv => lhs; whnf) <;> rfl) (by subst hb53e; ((conv => lhs; whnf) <;> rfl))) ?_
                        exact QW.nil (SegM.mk (any_c (any_c any_n)) (and_run hb53 hb53e hb56))
                      · intro hb53e
                        refine QW.skip (by subst hb53e; rfl) rfl ?_
                        refine QW.skip (by subst hb53e; rfl) rfl ?_
                        refine QW.q rfl rfl (yq_pick rfl (by (conv => lhs; whnf) <;> rfl) (by subst hb53e; ((conv => lhs; whnf) <;> rfl))) ?_
                        exact QW.nil (SegM.mk (any_c (any_c any_n)) (and_skip hb53 hb53e))
                      · intro ρ57 b57 hA hb57
                        obtain ⟨x55, x56, rfl⟩ := hA
                        refine OW.nil ?_
                        refine hK24 _ _ ?_
                        refine CW.condq (by (conv => lhs; whnf) <;> rfl) hb57 (fun hc7 => ?_) (fun hc7 => ?_)
                        · refine CW.skip ?_
                          refine hK23 _ _ ?_
                          refine CW.block ?_
                          refine CW.region ?_
                          refine OW.q rfl rfl (yq_move rfl (by (conv => lhs; whnf) <;> rfl)) ?_
                          refine OW.q rfl rfl (yq_quo rfl (by (conv => lhs; whnf) <;> rfl) (by (conv => lhs; whnf) <;> rfl) (by omega)) ?_
                          refine OW.q rfl rfl (yq_move rfl (by (conv => lhs; whnf) <;> rfl)) ?_
                          refine OW.q rfl rfl (yq_quo rfl (by (conv => lhs; whnf) <;> rfl) (by (conv => lhs; whnf) <;> rfl) (by omega)) ?_
                          refine OW.q rfl rfl (yq_assign rfl (by (conv => lhs; whnf) <;> rfl)) ?_
                          refine OW.q rfl rfl (yq_assign rfl (by (conv => lhs; whnf) <;> rfl)) ?_
                          refine OW.nil ?_
                          exact ⟨(i2 / 2, la2 / 2), ⟨Has.mk ⟨(by (conv => lhs; whnf) <;> rfl), (by (conv => lhs; whnf) <;> rfl), (by (conv => lhs; whnf) <;> rfl), (by (conv => lhs; whnf) <;> rfl), (by (conv => lhs; whnf) <;> rfl), (by (conv => lhs; whnf) <;> rfl), (by (conv => lhs; whnf) <;> rfl), (by (conv => lhs; whnf) <;> rfl), (by (conv => lhs; whnf) <;> rfl), trivial⟩, by rw [hst, strip_even (by omega) (by omega)], by omega, by omega, rfl⟩, by show i2 / 2 < i2; omega⟩
                        · have hst2 : strip i la = (i2, la2) := by rw [hst, strip_else (by omega)]
                          refine CW.exit ?_
                          refine then_exit ?_
                          refine then_exit ?_
                          refine blockQ_hit ?_
                          refine hK20 _ _ ?_
                          refine CW.seq_k fun K25 hK25 => ?_
                          refine CW.region ?_
                          refine OW.q rfl rfl (yq_move rfl (by (conv => lhs; whnf) <;> rfl)) ?_
                          refine OW.q rfl rfl (yq_quo rfl (by (conv => lhs; whnf) <;> rfl) (by (conv => lhs; whnf) <;> rfl) (by omega)) ?_
                          refine OW.q rfl rfl (yq_move rfl (by (conv => lhs; whnf) <;> rfl)) ?_
                          refine OW.q rfl rfl (yq_quo rfl (by (conv => lhs; whnf) <;> rfl) (by (conv => lhs; whnf) <;> rfl) (by omega)) ?_
                          refine OW.q rfl rfl (yq_assign rfl (by (conv => lhs; whnf) <;> rfl)) ?_
                          refine OW.q rfl rfl (yq_assign rfl (by (conv => lhs; whnf) <;> rfl)) ?_
                          refine OW.nil ?_
                          refine hK25 _ _ ?_
                          refine CW.region ?_
                          refine OW.drop (List.sublist_cons_self _ _) ?_
                          refine OW.q rfl rfl (yq_move rfl (by (conv => lhs; whnf) <;> rfl)) ?_
                          refine OW.q rfl rfl (yq_add rfl (by (conv => lhs; whnf) <;> rfl) (by (conv => lhs; whnf) <;> rfl) (by omega)) ?_
                          refine OW.q rfl rfl (yq_assign rfl (by (conv => lhs; whnf) <;> rfl)) ?_
                          refine OW.nil ?_
                          refine hK12 _ _ ?_
                          refine CW.region ?_
                          refine OW.q rfl rfl (yq_add rfl (by (conv => lhs; whnf) <;> rfl) (by (conv => lhs; whnf) <;> rfl) (by omega)) ?_
                          refine OW.q rfl rfl (yq_move rfl (by (conv => lhs; whnf) <;> rfl)) ?_
                          refine OW.nil ?_
                          exact ⟨(node x lf, i2 / 2, la2 / 2, j + 1), ⟨Has.mk ⟨(by (conv => lhs; whnf) <;> rfl), (by (conv => lhs; whnf) <;> rfl), (by (conv => lhs; whnf) <;> rfl), (by (conv => lhs; whnf) <;> rfl), (by (conv => lhs; whnf) <;> rfl), (by (conv => lhs; whnf) <;> rfl), (by (conv => lhs; whnf) <;> rfl), (by (conv => lhs; whnf) <;> rfl), (by (conv => lhs; whnf) <;> rfl), trivial⟩, by omega, by omega, by omega, by rw [hch, hd, chk_step hc5 (by omega), hst2], rfl⟩, by show p.length - (j + 1) < p.length - j; omega⟩
                  · have hc5 : ¬ (i % 2 = 1 ∨ i = la) := by omega
                    refine CW.region ?_
                    refine OW.q rfl rfl (yq_loadH rfl (by (conv => lhs; whnf) <;> rfl) ti25 (by repeat' first | exact List.mem_cons_self .. | apply List.mem_cons_of_mem)) ?_
                    refine OW.q rfl rfl (yq_loadH rfl (by (conv => lhs; whnf) <;> rfl) ti25 (by repeat' first | exact List.mem_cons_self .. | apply List.mem_cons_of_mem)) ?_
                    refine OW.q rfl rfl (yq_call rfl rfl (.cons (by (conv => lhs; whnf) <;> rfl) ( .cons (by (conv => lhs; whnf) <;> rfl) .nil)) en27 (fun w hw => node_calls _ _ w (Cl_gl0 hw hg))) ?_
                    refine OW.storeH rfl rfl rfl (by (conv => lhs; whnf) <;> rfl) (by (conv => lhs; whnf) <;> rfl) ti25 (by repeat' first | exact Put.head | apply Put.tail) (hc_length _) ?_
                    refine OW.nil ?_
                    refine hK20 _ _ ?_
                    refine CW.seq_k fun K26 hK26 => ?_
                    refine CW.region ?_
                    refine OW.q rfl rfl (yq_move rfl (by (conv => lhs; whnf) <;> rfl)) ?_
                    refine OW.q rfl rfl (yq_quo rfl (by (conv => lhs; whnf) <;> rfl) (by (conv => lhs; whnf) <;> rfl) (by omega)) ?_
                    refine OW.q rfl rfl (yq_move rfl (by (conv => lhs; whnf) <;> rfl)) ?_
                    refine OW.q rfl rfl (yq_quo rfl (by (conv => lhs; whnf) <;> rfl) (by (conv => lhs; whnf) <;> rfl) (by omega)) ?_
                    refine OW.q rfl rfl (yq_assign rfl (by (conv => lhs; whnf) <;> rfl)) ?_
                    refine OW.q rfl rfl (yq_assign rfl (by (conv => lhs; whnf) <;> rfl)) ?_
                    refine OW.nil ?_
                    refine hK26 _ _ ?_
                    refine CW.region ?_
                    refine OW.drop (List.sublist_cons_self _ _) ?_
                    refine OW.q rfl rfl (yq_move rfl (by (conv => lhs; whnf) <;> rfl)) ?_
                    refine OW.q rfl rfl (yq_add rfl (by (conv => lhs; whnf) <;> rfl) (by (conv => lhs; whnf) <;> rfl) (by omega)) ?_
                    refine OW.q rfl rfl (yq_assign rfl (by (conv => lhs; whnf) <;> rfl)) ?_
                    refine OW.nil ?_
                    refine hK12 _ _ ?_
                    refine CW.region ?_
                    refine OW.q rfl rfl (yq_add rfl (by (conv => lhs; whnf) <;> rfl) (by (conv => lhs; whnf) <;> rfl) (by omega)) ?_
                    refine OW.q rfl rfl (yq_move rfl (by (conv => lhs; whnf) <;> rfl)) ?_
                    refine OW.nil ?_
                    exact ⟨(node lf x, i / 2, la / 2, j + 1), ⟨Has.mk ⟨(by (conv => lhs; whnf) <;> rfl), (by (conv => lhs; whnf) <;> rfl), (by (conv => lhs; whnf) <;> rfl), (by (conv => lhs; whnf) <;> rfl), (by (conv => lhs; whnf) <;> rfl), (by (conv => lhs; whnf) <;> rfl), (by (conv => lhs; whnf) <;> rfl), (by (conv => lhs; whnf) <;> rfl), (by (conv => lhs; whnf) <;> rfl), trivial⟩, by omega, by omega, by omega, by rw [hch, hd, chk_even (by omega) (fun h => hc5 (.inr (by omega))) (by omega)], rfl⟩, by show p.length - (j + 1) < p.length - j; omega⟩
            · have hfin : la = 0 ∨ j = p.length := .inr (by omega)
              refine CW.exit ?_
              refine then_exit ?_
              refine then_exit ?_
              refine blockQ_hit ?_
              refine hK8 _ _ ?_
              refine CW.seq_k fun K27 hK27 => ?_
              refine CW.seq_k fun K28 hK28 => ?_
              refine CW.region ?_
              refine OW.q rfl rfl (yq_move rfl (by (conv => lhs; whnf) <;> rfl)) ?_
              refine OW.qb rfl rfl (yq_neq rfl (by (conv => lhs; whnf) <;> rfl) (by (conv => lhs; whnf) <;> rfl)) (fun b73 hb73 => ?_)
              refine OW.q rfl rfl (yq_move rfl (by (conv => lhs; whnf) <;> rfl)) ?_
              apply OW.segOr 5 [75, 76, 77, 78] 79 hb73
              · intro hb73e
                refine QW.q (by subst hb73e; rfl) rfl (yq_move rfl (by (conv => lhs; whnf) <;> rfl)) ?_
                refine QW.q (by subst hb73e; rfl) rfl (yq_move rfl (by (conv => lhs; whnf) <;> rfl)) ?_
                refine QW.q (by subst hb73e; rfl) rfl (yq_len_slice rfl ts22 (by (conv => lhs; whnf) <;> rfl)) ?_
                refine QW.qb (by subst hb73e; rfl) rfl (yq_neq rfl (by (conv => lhs; whnf) <;> rfl) (by (conv => lhs; whnf) <;> rfl)) (fun b78 hb78 => ?_)
                refine QW.q rfl rfl (yq_pick rfl (by (conv => lhs; whnf) <;> rfl) (by subst hb73e; ((conv => lhs; whnf) <;> rfl))) ?_
                exact QW.nil (SegM.mk (any_c (any_c (any_c (any_c any_n)))) (or_run hb73 hb73e hb78))
              · intro hb73e
                refine QW.skip (by subst hb73e; rfl) rfl ?_
                refine QW.skip (by subst hb73e; rfl) rfl ?_
                refine QW.skip (by subst hb73e; rfl) rfl ?_
                refine QW.skip (by subst hb73e; rfl) rfl ?_
                refine QW.q rfl rfl (yq_pick rfl (by (conv => lhs; whnf) <;> rfl) (by subst hb73e; ((conv => lhs; whnf) <;> rfl))) ?_
                exact QW.nil (SegM.mk (any_c (any_c (any_c (any_c any_n)))) (or_skip hb73 hb73e))
              · intro ρ79 b79 hA hb79
                obtain ⟨x75, x76, x77, x78, rfl⟩ := hA
                refine OW.q rfl rfl (yq_move rfl (by (conv => lhs; whnf) <;> rfl)) ?_
                apply OW.segOr 4 [81, 82, 83] 84 hb79
                · intro hb79e
                  refine QW.q (by subst hb79e; rfl) rfl (yq_loadH rfl (by (conv => lhs; whnf) <;> rfl) ti25 (by repeat' first | exact List.mem_cons_self .. | apply List.mem_cons_of_mem)) ?_
                  refine QW.q (by subst hb79e; rfl) rfl (yq_loadH rfl (by (conv => lhs; whnf) <;> rfl) ti25 (by repeat' first | exact List.mem_cons_self .. | apply List.mem_cons_of_mem)) ?_
                  refine QW.qb (by subst hb79e; rfl) rfl (yq_neq_H rfl (by (conv => lhs; whnf) <;> rfl) (by (conv => lhs; whnf) <;> rfl) ta25 Tryd.underlying5 ti5 eg25) (fun b83 hb83 => ?_)
                  refine QW.q rfl rfl (yq_pick rfl (by (conv => lhs; whnf) <;> rfl) (by subst hb79e; ((conv => lhs; whnf) <;> rfl))) ?_
                  exact QW.nil (SegM.mk (any_c (any_c (any_c any_n))) (or_run hb79 hb79e hb83))
                · intro hb79e
                  refine QW.skip (by subst hb79e; rfl) rfl ?_
                  refine QW.skip (by subst hb79e; rfl) rfl ?_
                  refine QW.skip (by subst hb79e; rfl) rfl ?_
                  refine QW.q rfl rfl (yq_pick rfl (by (conv => lhs; whnf) <;> rfl) (by subst hb79e; ((conv => lhs; whnf) <;> rfl))) ?_
                  exact QW.nil (SegM.mk (any_c (any_c (any_c any_n))) (or_skip hb79 hb79e))
                · intro ρ84 b84 hA hb84
                  obtain ⟨x81, x82, x83, rfl⟩ := hA
                  refine OW.nil ?_
                  refine hK28 _ _ ?_
                  refine CW.condq (by (conv => lhs; whnf) <;> rfl) hb84 (fun hc9 => ?_) (fun hc9 => ?_)
                  · refine CW.seq_k fun K29 hK29 => ?_
                    refine CW.region ?_
                    refine OW.q rfl rfl (yq_assign rfl (by (conv => lhs; whnf) <;> rfl)) ?_
                    refine OW.nil ?_
                    refine hK29 _ _ ?_
                    refine CW.ret ?_
                    refine then_ret ?_
                    refine noGoto_ret ?_
                    -- ret (ret)
                    rw [checkL_in hc0, ← hcome, hch, chk_fin hj hfin, if_neg (by
                      rcases hc9 with h | h
                      · rw [if_neg (by omega)]; simp
                      · split
                        · simpa using h
                        · simp)]
                    exact fin1 (Or.inr rfl) rfl ⟨by decide, (by (conv => lhs; whnf) <;> rfl)⟩ (fun w hw => ⟨rfl, hw.sub (List.nil_sublist _)⟩)
                  · refine CW.skip ?_
                    refine hK27 _ _ ?_
                    refine CW.seq_k fun K30 hK30 => ?_
                    refine CW.region ?_
                    refine OW.q rfl rfl (yq_assign rfl (by (conv => lhs; whnf) <;> rfl)) ?_
                    refine OW.nil ?_
                    refine hK30 _ _ ?_
                    refine CW.ret ?_
                    refine noGoto_ret ?_
                    -- ret (ret)
                    rw [checkL_in hc0, ← hcome, hch, chk_fin hj hfin, if_pos (by
                      have h1 : ¬ ((la : Int) ≠ 0 ∨ (j : Int) ≠ (p.length : Int)) := fun h => hc9 (.inl h)
                      have h2 : lf = root := Decidable.byContradiction fun h => hc9 (.inr h)
                      rw [if_pos (by omega), h2])]
                    exact fin1 (Or.inr rfl) rfl ⟨by decide, (by (conv => lhs; whnf) <;> rfl)⟩ (fun w hw => ⟨rfl, hw.sub (List.nil_sublist _)⟩)
set_option maxRecDepth 100000 in
set_option maxHeartbeats 1000000 in
theorem same_calls (a b : List Hash) (va vb : Value) (w : World) (hal : a.length ≤ 4294967296) (ha : HsAt w va a) (hb : HsAt w vb b) :
    Calls Tryd.prog 43 #[va, vb] w fun e w' => e = .returned (.bool (decide (a = b))) ∧ Cl w [] [] w' := by
  have ha0 := ha
  obtain ⟨aa, ca, rfl⟩ := ha0.len
  have hb0 := hb
  obtain ⟨ab, cb, rfl⟩ := hb0.len
  refine calls_of_CW (L := []) Tryd.func43 rfl (Nat.le_of_ble_eq_true rfl) (Cl.refl _) ?_
  refine CW.seq_k fun K1 hK1 => ?_
  refine CW.region ?_
  refine OW.q rfl rfl (yq_assign rfl (by (conv => lhs; whnf) <;> rfl)) ?_
  refine OW.nil ?_
  refine hK1 _ _ ?_
  refine CW.seq_k fun K2 hK2 => ?_
  refine CW.seq_k fun K3 hK3 => ?_
  refine CW.region ?_
  refine OW.q rfl rfl (yq_move rfl (by (conv => lhs; whnf) <;> rfl)) ?_
  refine OW.q rfl rfl (yq_len_slice rfl ts22 (by (conv => lhs; whnf) <;> rfl)) ?_
  refine OW.q rfl rfl (yq_move rfl (by (conv => lhs; whnf) <;> rfl)) ?_
  refine OW.q rfl rfl (yq_len_slice rfl ts22 (by (conv => lhs; whnf) <;> rfl)) ?_
  refine OW.q rfl rfl (yq_neq rfl (by (conv => lhs; whnf) <;> rfl) (by (conv => lhs; whnf) <;> rfl)) ?_
  refine OW.nil ?_
  refine hK3 _ _ ?_
  refine CW.cond_dec (by (conv => lhs; whnf) <;> rfl) (fun hc0 => ?_) (fun hc0 => ?_)
  · refine CW.seq_k fun K4 hK4 => ?_
    refine CW.region ?_
    refine OW.q rfl rfl (yq_assign rfl (by (conv => lhs; whnf) <;> rfl)) ?_
    refine OW.nil ?_
    refine hK4 _ _ ?_
    refine CW.ret ?_
    refine then_ret ?_
    -- ret (ret)
    rw [decide_eq_false (show ¬ a = b from fun h => by subst h; exact hc0 rfl)]
    exact fin1 (Or.inr rfl) rfl ⟨by decide, (by (conv => lhs; whnf) <;> rfl)⟩ (fun w hw => ⟨rfl, hw⟩)
  · have hlen : a.length = b.length := by omega
    refine CW.skip ?_
    refine hK2 _ _ ?_
    refine CW.seq_k fun K5 hK5 => ?_
    refine CW.seq_k fun K6 hK6 => ?_
    refine CW.region ?_
    refine OW.q rfl rfl (yq_assign rfl (by (conv => lhs; whnf) <;> rfl)) ?_
    refine OW.nil ?_
    refine hK6 _ _ ?_
    refine CW.block ?_
    refine CW.loop (σ := Nat) (fun j ρ L => Has ρ [(0, .slice aa a.length ca), (1, .slice ab b.length cb), (5, .int .i64 (j : Int))] ∧ j ≤ a.length ∧ a.take j = b.take j ∧ L = []) (fun j => a.length - j) (0) ?_ ?_
    · exact ⟨Has.mk ⟨(by (conv => lhs; whnf) <;> rfl), (by (conv => lhs; whnf) <;> rfl), (by (conv => lhs; whnf) <;> rfl), trivial⟩, Nat.zero_le _, rfl, rfl⟩
    · rintro j _ _ ⟨⟨ρ', rfl⟩, hj, htk, rfl⟩
      refine CW.seq_k fun K7 hK7 => ?_
      refine CW.seq_k fun K8 hK8 => ?_
      refine CW.region ?_
      refine OW.q rfl rfl (yq_move rfl (by (conv => lhs; whnf) <;> rfl)) ?_
      refine OW.q rfl rfl (yq_move rfl (by (conv => lhs; whnf) <;> rfl)) ?_
      refine OW.q rfl rfl (yq_len_slice rfl ts22 (by (conv => lhs; whnf) <;> rfl)) ?_
      refine OW.q rfl rfl (yq_lss rfl (by (conv => lhs; whnf) <;> rfl) (by (conv => lhs; whnf) <;> rfl)) ?_
      refine OW.nil ?_
      refine hK8 _ _ ?_
      refine CW.cond_dec (by (conv => lhs; whnf) <;> rfl) (fun hc2 => ?_) (fun hc2 => ?_)
      · have hlt : j < a.length := by omega
        obtain ⟨b1, off1, cp1, hv1, hcp1⟩ := ha.place (fun e => by subst e; simp at hlt)
        rw [Value.slice.injEq] at hv1
        obtain ⟨rfl, _, rfl⟩ := hv1
        obtain ⟨b2, off2, cp2, hv2, hcp2⟩ := hb.place (fun e => by subst e; rw [hlen] at hlt; exact absurd hlt (Nat.not_lt_zero _))
        rw [Value.slice.injEq] at hv2
        obtain ⟨rfl, _, rfl⟩ := hv2
        refine CW.skip ?_
        refine hK7 _ _ ?_
        refine CW.seq_k fun K9 hK9 => ?_
        refine CW.block ?_
        refine CW.seq_k fun K10 hK10 => ?_
        refine CW.draw mixed (by kernel_rfl) ?_
        refine QW.q rfl rfl (yq_move rfl (by (conv => lhs; whnf) <;> rfl)) ?_
        refine QW.q rfl rfl (yq_move rfl (by (conv => lhs; whnf) <;> rfl)) ?_
        refine QW.q rfl rfl (yq_index_slice rfl (by (conv => lhs; whnf) <;> rfl) (by (conv => lhs; whnf) <;> rfl) ts22 ti25 (by omega) (by omega)) ?_
        refine QW.q rfl rfl (yq_load_hs (i := j) (v := a.getD j zeroHash) rfl (by (conv => lhs; whnf) <;> rfl) ti25 (fun w hw => ha.mono hw) (at_of_lt hlt)) ?_
        refine QW.q rfl rfl (yq_move rfl (by (conv => lhs; whnf) <;> rfl)) ?_
        refine QW.q rfl rfl (yq_move rfl (by (conv => lhs; whnf) <;> rfl)) ?_
        refine QW.q rfl rfl (yq_index_slice rfl (by (conv => lhs; whnf) <;> rfl) (by (conv => lhs; whnf) <;> rfl) ts22 ti25 (by omega) (by omega)) ?_
        refine QW.q rfl rfl (yq_load_hs (i := j) (v := b.getD j zeroHash) rfl (by (conv => lhs; whnf) <;> rfl) ti25 (fun w hw => hb.mono hw) (at_of_lt (by omega))) ?_
        refine QW.q rfl rfl (yq_neq_H rfl (by (conv => lhs; whnf) <;> rfl) (by (conv => lhs; whnf) <;> rfl) ta25 Tryd.underlying5 ti5 eg25) ?_
        refine QW.nil ?_
        refine hK10 _ _ ?_
        refine CW.cond_dec (by (conv => lhs; whnf) <;> rfl) (fun hc4 => ?_) (fun hc4 => ?_)
        · refine CW.seq_k fun K11 hK11 => ?_
          refine CW.region ?_
          refine OW.q rfl rfl (yq_assign rfl (by (conv => lhs; whnf) <;> rfl)) ?_
          refine OW.nil ?_
          refine hK11 _ _ ?_
          refine CW.ret ?_
          refine blockQ_ret ?_
          refine then_ret ?_
          refine then_ret ?_
          refine blockQ_ret ?_
          refine then_ret ?_
          -- ret (ret)
          rw [decide_eq_false (show ¬ a = b from fun h => by subst h; exact hc4 rfl)]
          exact fin1 (Or.inr rfl) rfl ⟨by decide, (by (conv => lhs; whnf) <;> rfl)⟩ (fun w hw => ⟨rfl, hw⟩)
        · refine CW.skip ?_
          refine hK9 _ _ ?_
          refine CW.region ?_
          refine OW.q rfl rfl (yq_move rfl (by (conv => lhs; whnf) <;> rfl)) ?_
          refine OW.q rfl rfl (yq_add rfl (by (conv => lhs; whnf) <;> rfl) (by (conv => lhs; whnf) <;> rfl) (by omega)) ?_
          refine OW.q rfl rfl (yq_assign rfl (by (conv => lhs; whnf) <;> rfl)) ?_
          refine OW.nil ?_
          exact ⟨j + 1, ⟨Has.mk ⟨(by (conv => lhs; whnf) <;> rfl), (by (conv => lhs; whnf) <;> rfl), (by (conv => lhs; whnf) <;> rfl), trivial⟩, by omega, by rw [List.take_add_one, List.take_add_one, htk, at_of_lt hlt, at_of_lt (by omega), Decidable.byContradiction hc4], rfl⟩, by omega⟩
      · refine CW.exit ?_
        refine then_exit ?_
        refine then_exit ?_
        refine blockQ_hit ?_
        refine hK5 _ _ ?_
        refine CW.seq_k fun K12 hK12 => ?_
        refine CW.region ?_
        refine OW.q rfl rfl (yq_assign rfl (by (conv => lhs; whnf) <;> rfl)) ?_
        refine OW.nil ?_
        refine hK12 _ _ ?_
        refine CW.ret ?_
        -- ret (ret)
        rw [decide_eq_true (show a = b by have h1 : a.take a.length = b.take a.length := by { rw [show a.length = j by omega]; exact htk }; rwa [List.take_length, hlen, List.take_length] at h1)]
        exact fin1 (Or.inr rfl) rfl ⟨by decide, (by (conv => lhs; whnf) <;> rfl)⟩ (fun w hw => ⟨rfl, hw⟩)
end Go.Proofs.YtahdekllphehkaaDoor
namespace Go.Proofs.YtahdekllphehkaaDoor
open Go.WL Go.Spec
end Go.Proofs.YtahdekllphehkaaDoor
namespace Go.Proofs.YtahdekllphehkaaDoor
open Go.WL Go.Spec
end Go.Proofs.YtahdekllphehkaaDoor
namespace Go.Proofs.YtahdekllphehkaaDoor
open Go.WL Go.Spec
end Go.Proofs.YtahdekllphehkaaDoor
