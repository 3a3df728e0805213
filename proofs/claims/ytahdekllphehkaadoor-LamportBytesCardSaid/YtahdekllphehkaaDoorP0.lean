/- Paths: lists turned round, the path of a leaf; no statement of the seat is proved here. -/
import Derived.Test.YtahdekllphehkaaDoorA9
import Derived.Test.YtahdekllphehkaaDoorS1
import Derived.Test.YtahdekllphehkaaDoorRv1
set_option linter.unusedVariables false
set_option linter.unusedSimpArgs false
namespace Go.Proofs.YtahdekllphehkaaDoor
open Go.WL Go.Spec

/-- What a path is answered. -/
def pathR (l : List Hash) (i : Int) : List Hash := if i < 0 ∨ (l.length : Int) ≤ i then [] else pathL l i.toNat
def pathE (l : List Hash) (i : Int) : Int := if i < 0 ∨ (l.length : Int) ≤ i then 2 else 0
theorem pathR_bad {l : List Hash} {i : Int} (h : i < 0 ∨ (l.length : Int) ≤ i) : pathR l i = [] := if_pos h
theorem pathE_bad {l : List Hash} {i : Int} (h : i < 0 ∨ (l.length : Int) ≤ i) : pathE l i = 2 := if_pos h
theorem pathR_ok {l : List Hash} {k : Nat} (h : ¬ ((k : Int) < 0 ∨ (l.length : Int) ≤ (k : Int))) : pathR l (k : Int) = pathL l k := by unfold pathR; rw [if_neg h]; rfl
theorem pathE_ok {l : List Hash} {i : Int} (h : ¬ (i < 0 ∨ (l.length : Int) ≤ i)) : pathE l i = 0 := if_neg h
/-- A list of hashes that was handed out. -/
def OutHs (v : Value) (L1 : List Ent) (l : List Hash) : Prop := ∃ a cap, v = rowV a l.length cap ∧ L1 = [.row a cap l.length 25 32 (l.flatMap hc)]
theorem OutHs.at {w w0 : World} {E : List Nat} {v : Value} {L1 L : List Ent} {l : List Hash} (h : OutHs v L1 l) (hc : Cl w0 E L w) (hs : ∀ x ∈ L1, x ∈ L) : HsAt w v l := by
  obtain ⟨a, cap, rfl, rfl⟩ := h
  exact HsAt.row rfl (hc.own _ (hs _ (List.mem_singleton.2 rfl)))
theorem sliceT {w : World} {b off cap : Nat} {l : List Hash} (h : HsAt w (.slice (some ⟨b, off, none⟩) l.length cap) l) (q : Nat) (hq : q ≤ l.length) : HsAt w (.slice (some ⟨b, if cap = 0 then off else off + 0 * 32, none⟩) (q - 0) (cap - 0)) (l.take q) := by
  have := h.slice 0 q (Nat.zero_le _) hq
  rwa [List.drop_zero] at this
theorem sliceD {w : World} {b off cap : Nat} {l : List Hash} (h : HsAt w (.slice (some ⟨b, off, none⟩) l.length cap) l) (q : Nat) (hq : q ≤ l.length) : HsAt w (.slice (some ⟨b, if cap = q then off else off + q * 32, none⟩) (l.length - q) (cap - q)) (l.drop q) := by
  have := h.slice q l.length hq (Nat.le_refl _)
  rwa [List.take_of_length_le (by simp)] at this
theorem flat_snoc (l : List Hash) (x : Hash) : (l ++ [x]).flatMap hc = l.flatMap hc ++ hc x := by rw [List.flatMap_append, List.flatMap_singleton]
theorem depth_lt (n : Nat) : ∀ i, 1 ≤ n → depth i n < n := by
  induction n using Nat.strongRecOn with
  | _ n ih =>
    intro i h
    rcases Nat.lt_or_ge n 2 with h2 | h2
    · rw [depth_small h2]; omega
    · have h3 := sp_lt h2
      have h4 := sp_pos h2
      by_cases hs : i < sp n
      · rw [depth_left h2 hs]; have := ih (sp n) h3 i h4; omega
      · rw [depth_right h2 hs]; have := ih (n - sp n) (by omega) (i - sp n) (by omega); omega
theorem pathR_length (l : List Hash) (i : Int) : (pathR l i).length ≤ l.length := by
  unfold pathR
  split
  · simp
  · rw [pathL_length _ l _ (Nat.le_refl _)]
    rcases Nat.eq_zero_or_pos l.length with h | h
    · rw [h, depth_small (by decide)]; exact Nat.le_refl _
    · exact Nat.le_of_lt (depth_lt _ _ h)

theorem nilrow_cl {w0 w : World} {E : List Nat} {L : List Ent} (h : Cl w0 E L w) (e : TypeId) (size : Nat) : Cl w0 E (.row none 0 0 e size [] :: L) w :=
  ⟨h.os, h.tape, h.output, h.size, h.old, fun x hx => by
    rcases List.mem_cons.1 hx with rfl | hx
    · exact ⟨by simp, .inl ⟨rfl, rfl⟩⟩
    · exact h.own x hx, fun x hx b hb => by
    rcases List.mem_cons.1 hx with rfl | hx
    · cases hb
    · exact h.new x hx b hb, h.nodup⟩

set_option maxRecDepth 100000 in
set_option maxHeartbeats 1000000 in
theorem path_calls (v : Value) (l : List Hash) (i : Int) (w : World) (hs : HsAt w v l) (hll : l.length ≤ 4294967296) (hi1 : -9223372036854775808 ≤ i) (hi2 : i ≤ 9223372036854775807) (hg : GL w) :
    Calls Tryd.prog 41 #[v, .int .i64 i] w fun e w' => ∃ v' L1, e = .returned v' ∧ Cl w [] L1 w' ∧ ∃ u, v' = .tuple #[u, .int .i64 (pathE l i)] ∧ OutHs u L1 (pathR l i) := by
  have hs0 := hs
  obtain ⟨a0, cap0, rfl⟩ := hs0.len
  refine calls_of_CW (L := []) Tryd.func41 rfl (Nat.le_of_ble_eq_true rfl) (Cl.refl _) ?_
  refine CW.seq_k fun K1 hK1 => ?_
  refine CW.region ?_
  refine OW.q rfl rfl (yq_assign rfl (by (conv => lhs; whnf) <;> rfl)) ?_
  refine OW.q rfl rfl (yq_assign rfl (by (conv => lhs; whnf) <;> rfl)) ?_
  refine OW.nil ?_
  refine hK1 _ _ ?_
  refine CW.seq_k fun K2 hK2 => ?_
  refine CW.seq_k fun K3 hK3 => ?_
  refine CW.region ?_
  refine OW.q rfl rfl (yq_move rfl (by (conv => lhs; whnf) <;> rfl)) ?_
  refine OW.qb rfl rfl (yq_lss rfl (by (conv => lhs; whnf) <;> rfl) (by (conv => lhs; whnf) <;> rfl)) (fun b9 hb9 => ?_)
  refine OW.q rfl rfl (yq_move rfl (by (conv => lhs; whnf) <;> rfl)) ?_
  apply OW.segOr 5 [11, 12, 13, 14] 15 hb9
  · intro hb9e
    refine QW.q (by subst hb9e; rfl) rfl (yq_move rfl (by (conv => lhs; whnf) <;> rfl)) ?_
    refine QW.q (by subst hb9e; rfl) rfl (yq_move rfl (by (conv => lhs; whnf) <;> rfl)) ?_
    refine QW.q (by subst hb9e; rfl) rfl (yq_len_slice rfl ts22 (by (conv => lhs; whnf) <;> rfl)) ?_
    refine QW.qb (by subst hb9e; rfl) rfl (yq_geq rfl (by (conv => lhs; whnf) <;> rfl) (by (conv => lhs; whnf) <;> rfl)) (fun b14 hb14 => ?_)
    refine QW.q rfl rfl (yq_pick rfl (by (conv => lhs; whnf) <;> rfl) (by subst hb9e; ((conv => lhs; whnf) <;> rfl))) ?_
    exact QW.nil (SegM.mk (any_c (any_c (any_c (any_c any_n)))) (or_run hb9 hb9e hb14))
  · intro hb9e
    refine QW.skip (by subst hb9e; rfl) rfl ?_
    refine QW.skip (by subst hb9e; rfl) rfl ?_
    refine QW.skip (by subst hb9e; rfl) rfl ?_
    refine QW.skip (by subst hb9e; rfl) rfl ?_
    refine QW.q rfl rfl (yq_pick rfl (by (conv => lhs; whnf) <;> rfl) (by subst hb9e; ((conv => lhs; whnf) <;> rfl))) ?_
    exact QW.nil (SegM.mk (any_c (any_c (any_c (any_c any_n)))) (or_skip hb9 hb9e))
  · intro ρ15 b15 hA hb15
    obtain ⟨x11, x12, x13, x14, rfl⟩ := hA
    refine OW.nil ?_
    refine hK3 _ _ ?_
    refine CW.condq (by (conv => lhs; whnf) <;> rfl) hb15 (fun hc0 => ?_) (fun hc0 => ?_)
    · refine CW.seq_k fun K4 hK4 => ?_
      refine CW.region ?_
      refine OW.q rfl rfl (yq_assign rfl (by (conv => lhs; whnf) <;> rfl)) ?_
      refine OW.q rfl rfl (yq_assign rfl (by (conv => lhs; whnf) <;> rfl)) ?_
      refine OW.nil ?_
      refine hK4 _ _ ?_
      refine CW.ret ?_
      refine then_ret ?_
      -- ret (ret)
      refine fin2 (Or.inr rfl) rfl ⟨by decide, (by (conv => lhs; whnf) <;> rfl)⟩ ⟨by decide, (by (conv => lhs; whnf) <;> rfl)⟩ (fun w hw => ?_)
      refine ⟨_, [.row none 0 0 25 32 []], rfl, ?_, ?_⟩
      · exact nilrow_cl hw 25 32
      · rw [pathE_bad hc0, pathR_bad hc0]; exact ⟨_, rfl, none, 0, rfl, rfl⟩
    · obtain ⟨k, rfl⟩ : ∃ k : Nat, i = (k : Int) := ⟨i.toNat, by omega⟩
      have hkl : k < l.length := by omega
      obtain ⟨b, off, cp, hv, hcp⟩ := hs.place (fun e => by subst e; simp at hkl)
      rw [Value.slice.injEq] at hv
      obtain ⟨rfl, _, rfl⟩ := hv
      refine CW.skip ?_
      refine hK2 _ _ ?_
      refine CW.seq_k fun K5 hK5 => ?_
      refine CW.region ?_
      refine OW.q rfl rfl (yq_assign rfl (by (conv => lhs; whnf) <;> rfl)) ?_
      refine OW.nilrow 25 32 ?_
      refine OW.nil ?_
      refine hK5 _ _ ?_
      refine CW.seq_k fun K6 hK6 => ?_
      refine CW.block ?_
      refine CW.loop (σ := List Hash × (Nat × Nat × Nat) × Nat × List Hash) (fun p ρ L => match p with | (lc, (b, off, cp), ic, out) => ∃ a cap, Has ρ [(0, .slice (some ⟨b, off, none⟩) lc.length cp), (1, .int .i64 (ic : Int)), (6, rowV a out.length cap)] ∧ L = [.row a cap out.length 25 32 (out.flatMap hc)] ∧ HsAt w (.slice (some ⟨b, off, none⟩) lc.length cp) lc ∧ lc.length ≤ cp ∧ ic < lc.length ∧ lc.length + out.length ≤ l.length ∧ pathL l k = pathL lc ic ++ out.reverse) (fun p => p.1.length) ((l, (b, off, cap0), k, [])) ?_ ?_
      · exact ⟨none, 0, Has.mk ⟨(by (conv => lhs; whnf) <;> rfl), (by (conv => lhs; whnf) <;> rfl), (by (conv => lhs; whnf) <;> rfl), trivial⟩, rfl, hs, hcp, hkl, Nat.le_refl _, by simp⟩
      · rintro ⟨lc, ⟨b, off, cp⟩, ic, out⟩ _ _ ⟨a, cap, ⟨ρ', rfl⟩, rfl, hsc, hcc, hic, hlo, hpl⟩
        refine CW.seq_k fun K7 hK7 => ?_
        refine CW.seq_k fun K8 hK8 => ?_
        refine CW.region ?_
        refine OW.q rfl rfl (yq_move rfl (by (conv => lhs; whnf) <;> rfl)) ?_
        refine OW.q rfl rfl (yq_len_slice rfl ts22 (by (conv => lhs; whnf) <;> rfl)) ?_
        refine OW.q rfl rfl (yq_gtr rfl (by (conv => lhs; whnf) <;> rfl) (by (conv => lhs; whnf) <;> rfl)) ?_
        refine OW.nil ?_
        refine hK8 _ _ ?_
        refine CW.cond_dec (by (conv => lhs; whnf) <;> rfl) (fun hc2 => ?_) (fun hc2 => ?_)
        · have hl2 : 2 ≤ lc.length := by omega
          have hk1 := sp_pos hl2
          have hk2 := sp_lt hl2
          obtain ⟨q, hq⟩ : ∃ q, q = sp lc.length := ⟨_, rfl⟩
          rw [← hq] at hk1 hk2
          have hsp : spI (lc.length : Int) = (q : Int) := by rw [spI_nat, hq]
          have hT := sliceT hsc q (by omega)
          have hD := sliceD hsc q (by omega)
          have hlT : (lc.take q).length = q := by rw [List.length_take]; omega
          have hlD : (lc.drop q).length = lc.length - q := by rw [List.length_drop]
          refine CW.skip ?_
          refine hK7 _ _ ?_
          refine CW.block ?_
          refine CW.seq_k fun K9 hK9 => ?_
          refine CW.region ?_
          refine OW.q rfl rfl (yq_move rfl (by (conv => lhs; whnf) <;> rfl)) ?_
          refine OW.q rfl rfl (yq_len_slice rfl ts22 (by (conv => lhs; whnf) <;> rfl)) ?_
          refine OW.q rfl rfl (yq_call rfl rfl (.cons (by (conv => lhs; whnf) <;> rfl) .nil) en28 (fun w hw => split_c _ _ w hsp (by omega) (by omega))) ?_
          refine OW.q rfl rfl (yq_assign rfl (by (conv => lhs; whnf) <;> rfl)) ?_
          refine OW.nil ?_
          refine hK9 _ _ ?_
          refine CW.seq_k fun K10 hK10 => ?_
          refine CW.region ?_
          refine OW.q rfl rfl (yq_move rfl (by (conv => lhs; whnf) <;> rfl)) ?_
          refine OW.q rfl rfl (yq_move rfl (by (conv => lhs; whnf) <;> rfl)) ?_
          refine OW.q rfl rfl (yq_lss rfl (by (conv => lhs; whnf) <;> rfl) (by (conv => lhs; whnf) <;> rfl)) ?_
          refine OW.nil ?_
          refine hK10 _ _ ?_
          refine CW.cond_dec (by (conv => lhs; whnf) <;> rfl) (fun hc4 => ?_) (fun hc4 => ?_)
          · have hlt : ic < q := by omega
            refine CW.seq_k fun K11 hK11 => ?_
            refine CW.region ?_
            refine OW.q rfl rfl (yq_move rfl (by (conv => lhs; whnf) <;> rfl)) ?_
            refine OW.q rfl rfl (yq_move rfl (by (conv => lhs; whnf) <;> rfl)) ?_
            refine OW.q rfl rfl (yq_move rfl (by (conv => lhs; whnf) <;> rfl)) ?_
            refine OW.q rfl rfl (yq_slice_slice (l := q) (h := lc.length) rfl (by (conv => lhs; whnf) <;> rfl) ts22 ti25 ⟨_, _, (by (conv => lhs; whnf) <;> rfl), by omega, by omega⟩ rfl (by omega) (by omega)) ?_
            refine OW.q rfl rfl (yq_call rfl rfl (.cons (by (conv => lhs; whnf) <;> rfl) .nil) en24 (fun w hw => root_calls _ (lc.drop q) w (hD.mono hw) (by omega) (Cl_gl0 hw hg))) ?_
            refine OW.slicelit (vs := [HV (rootL (lc.drop q))]) rfl rfl rfl rfl ts22 ti25 tz25 (by decide) rfl (by decide) (by simp [HV_cells]) (by decide) (cs := hc (rootL (lc.drop q))) (by simp [HV_cells]) (fun bl => ?_)
            refine OW.append (news := hc (rootL (lc.drop q))) rfl rfl rfl (by (conv => lhs; whnf) <;> rfl) (by (conv => lhs; whnf) <;> rfl) ts22 ti25 tz25 (.tail .head) (blk_cells (List.mem_cons_self ..)) (by rw [hc_length]) (hc_one _) (hc_length _) (by decide) (by simp only [maxLen]; omega) (by omega) (fun a' cap' => ?_)
            refine OW.drop ((List.sublist_cons_self _ _).cons_cons _) ?_
            refine OW.q rfl rfl (yq_assign rfl (by (conv => lhs; whnf) <;> rfl)) ?_
            refine OW.nil ?_
            refine hK11 _ _ ?_
            refine CW.region ?_
            refine OW.q rfl rfl (yq_move rfl (by (conv => lhs; whnf) <;> rfl)) ?_
            refine OW.q rfl rfl (yq_move rfl (by (conv => lhs; whnf) <;> rfl)) ?_
            refine OW.q rfl rfl (yq_slice_slice (l := 0) (h := q) rfl (by (conv => lhs; whnf) <;> rfl) ts22 ti25 rfl ⟨_, _, (by (conv => lhs; whnf) <;> rfl), by omega, by omega⟩ (by omega) (by omega)) ?_
            refine OW.q rfl rfl (yq_assign rfl (by (conv => lhs; whnf) <;> rfl)) ?_
            refine OW.nil ?_
            refine ⟨(lc.take q, (b, if cp = 0 then off else off + 0 * 32, cp), ic, out ++ [rootL (lc.drop q)]), ⟨a', cap', Has.mk ⟨by simp only [hlT]; exact (by (conv => lhs; whnf) <;> rfl), (by (conv => lhs; whnf) <;> rfl), by simp only [List.length_append, List.length_singleton]; exact (by (conv => lhs; whnf) <;> rfl), trivial⟩, ?_, by simp only [hlT]; exact hT, by simp only [hlT]; omega, by simp only [hlT]; omega, by simp only [hlT, List.length_append, List.length_singleton]; omega, ?_⟩, by simp only [hlT]; omega⟩
            · simp only [flat_snoc, List.length_append, List.length_singleton]
            · rw [hpl, pathL_left hl2 (by rw [← hq]; exact hlt), ← hq]; simp
          · have hlt : ¬ ic < q := by omega
            have hiq : ((ic - q : Nat) : Int) = (ic : Int) - (q : Int) := by omega
            refine CW.seq_k fun K12 hK12 => ?_
            refine CW.region ?_
            refine OW.q rfl rfl (yq_move rfl (by (conv => lhs; whnf) <;> rfl)) ?_
            refine OW.q rfl rfl (yq_move rfl (by (conv => lhs; whnf) <;> rfl)) ?_
            refine OW.q rfl rfl (yq_move rfl (by (conv => lhs; whnf) <;> rfl)) ?_
            refine OW.q rfl rfl (yq_slice_slice (l := 0) (h := q) rfl (by (conv => lhs; whnf) <;> rfl) ts22 ti25 rfl ⟨_, _, (by (conv => lhs; whnf) <;> rfl), by omega, by omega⟩ (by omega) (by omega)) ?_
            refine OW.q rfl rfl (yq_call rfl rfl (.cons (by (conv => lhs; whnf) <;> rfl) .nil) en24 (fun w hw => root_calls _ (lc.take q) w (hT.mono hw) (by omega) (Cl_gl0 hw hg))) ?_
            refine OW.slicelit (vs := [HV (rootL (lc.take q))]) rfl rfl rfl rfl ts22 ti25 tz25 (by decide) rfl (by decide) (by simp [HV_cells]) (by decide) (cs := hc (rootL (lc.take q))) (by simp [HV_cells]) (fun bl => ?_)
            refine OW.append (news := hc (rootL (lc.take q))) rfl rfl rfl (by (conv => lhs; whnf) <;> rfl) (by (conv => lhs; whnf) <;> rfl) ts22 ti25 tz25 (.tail .head) (blk_cells (List.mem_cons_self ..)) (by rw [hc_length]) (hc_one _) (hc_length _) (by decide) (by simp only [maxLen]; omega) (by omega) (fun a' cap' => ?_)
            refine OW.drop ((List.sublist_cons_self _ _).cons_cons _) ?_
            refine OW.q rfl rfl (yq_assign rfl (by (conv => lhs; whnf) <;> rfl)) ?_
            refine OW.nil ?_
            refine hK12 _ _ ?_
            refine CW.region ?_
            refine OW.q rfl rfl (yq_move rfl (by (conv => lhs; whnf) <;> rfl)) ?_
            refine OW.q rfl rfl (yq_move rfl (by (conv => lhs; whnf) <;> rfl)) ?_
            refine OW.q rfl rfl (yq_slice_slice (l := q) (h := lc.length) rfl (by (conv => lhs; whnf) <;> rfl) ts22 ti25 ⟨_, _, (by (conv => lhs; whnf) <;> rfl), by omega, by omega⟩ rfl (by omega) (by omega)) ?_
            refine OW.q rfl rfl (yq_move rfl (by (conv => lhs; whnf) <;> rfl)) ?_
            refine OW.q rfl rfl (yq_move rfl (by (conv => lhs; whnf) <;> rfl)) ?_
            refine OW.q rfl rfl (yq_sub rfl (by (conv => lhs; whnf) <;> rfl) (by (conv => lhs; whnf) <;> rfl) (by omega)) ?_
            refine OW.q rfl rfl (yq_assign rfl (by (conv => lhs; whnf) <;> rfl)) ?_
            refine OW.q rfl rfl (yq_assign rfl (by (conv => lhs; whnf) <;> rfl)) ?_
            refine OW.nil ?_
            refine ⟨(lc.drop q, (b, if cp = q then off else off + q * 32, cp - q), ic - q, out ++ [rootL (lc.take q)]), ⟨a', cap', Has.mk ⟨by simp only [hlD]; exact (by (conv => lhs; whnf) <;> rfl), by simp only [hiq]; exact (by (conv => lhs; whnf) <;> rfl), by simp only [List.length_append, List.length_singleton]; exact (by (conv => lhs; whnf) <;> rfl), trivial⟩, ?_, by simp only [hlD]; exact hD, by simp only [hlD]; omega, by simp only [hlD]; omega, by simp only [hlD, List.length_append, List.length_singleton]; omega, ?_⟩, by simp only [hlD]; omega⟩
            · simp only [flat_snoc, List.length_append, List.length_singleton]
            · rw [hpl, pathL_right hl2 (by rw [← hq]; exact hlt), ← hq]; simp
        · have hl1 : lc.length < 2 := by omega
          rw [pathL_small _ hl1, List.nil_append] at hpl
          refine CW.exit ?_
          refine then_exit ?_
          refine then_exit ?_
          refine blockQ_hit ?_
          refine hK6 _ _ ?_
          refine CW.seq_k fun K13 hK13 => ?_
          refine CW.region ?_
          refine OW.q rfl rfl (yq_move rfl (by (conv => lhs; whnf) <;> rfl)) ?_
          refine OW.calle (K := fun v L1 => v = .tuple #[] ∧ L1 = [.row a cap out.length 25 32 (out.reverse.flatMap hc)]) a.toList [] rfl rfl rfl (by (conv => lhs; whnf) <;> rfl) (.cons (by (conv => lhs; whnf) <;> rfl) .nil) en115 (fun b hb => ⟨_, List.mem_cons_self .., by simpa [Ent.fp] using hb⟩) (List.nil_sublist _) (fun _ _ x hx => by cases hx) (fun w hw => (reverse_calls out a cap w (hw.own _ (List.mem_cons_self ..)) (by omega)).mono fun e w' ⟨h1, h2⟩ => ⟨_, _, h1, h2, rfl, rfl⟩) ?_
          rintro _ _ ⟨rfl, rfl⟩
          have hrl : out.length = (pathL l k).length := by rw [hpl, List.length_reverse]
          refine OW.nil ?_
          refine hK13 _ _ ?_
          refine CW.seq_k fun K14 hK14 => ?_
          refine CW.region ?_
          refine OW.q rfl rfl (yq_move rfl (by (conv => lhs; whnf) <;> rfl)) ?_
          refine OW.q rfl rfl (yq_assign rfl (by (conv => lhs; whnf) <;> rfl)) ?_
          refine OW.q rfl rfl (yq_assign rfl (by (conv => lhs; whnf) <;> rfl)) ?_
          refine OW.nil ?_
          refine hK14 _ _ ?_
          refine CW.ret ?_
          -- ret (ret)
          refine fin2 (Or.inr rfl) rfl ⟨by decide, (by (conv => lhs; whnf) <;> rfl)⟩ ⟨by decide, (by (conv => lhs; whnf) <;> rfl)⟩ (fun w hw => ?_)
          refine ⟨_, _, rfl, hw, ?_⟩
          rw [pathE_ok hc0, pathR_ok hc0]
          exact ⟨_, rfl, a, cap, by rw [hrl]; rfl, by rw [hpl]; simp⟩

end Go.Proofs.YtahdekllphehkaaDoor
