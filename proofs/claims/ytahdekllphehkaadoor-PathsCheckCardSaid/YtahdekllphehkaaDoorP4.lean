/- The walk of PathsBack; no statement of the seat is proved here. -/
import Derived.Test.YtahdekllphehkaaDoorP3
set_option linter.unusedVariables false
set_option linter.unusedSimpArgs false
namespace Go.Proofs.YtahdekllphehkaaDoor
open Go.WL Go.Spec

theorem hsRow {w : World} {a : Option Nat} {cap k : Nat} {T : TypeId} {xs : List Value} {l : List Hash} (hk : k = l.length) (hx : xs = l.flatMap hc) (h : (Ent.row a cap k T 32 xs).ok w) : HsAt w (rowV a k cap) l := by
  subst hx
  exact HsAt.row hk h
theorem pathL_le (l : List Hash) (i j : Nat) (hj : l.length ≤ 2 ^ j) : (pathL l i).length ≤ j := by
  rw [pathL_length _ l i (Nat.le_refl _)]; exact depth_le j i _ hj

set_option maxRecDepth 100000 in
set_option maxHeartbeats 1000000 in
theorem pathsBack_calls (v : Value) (l : List Hash) (h : Hash) (w : World) (hs : HsAt w v l) (hg : GL w) :
    Calls Tryd.prog 10 #[v, HV h] w fun e w' => e = .returned (.bool true) ∧ Cl w [] [] w' := by
  have hs0 := hs
  obtain ⟨a0, cap0, rfl⟩ := hs0.len
  refine calls_of_CW (L := []) Tryd.func10 rfl (Nat.le_of_ble_eq_true rfl) (Cl.refl _) ?_
  refine CW.seq_k fun K1 hK1 => ?_
  refine CW.region ?_
  refine OW.box rfl rfl rfl (by (conv => lhs; whnf) <;> rfl) (by rfl) (fun b3 => ?_)
  refine OW.q rfl rfl (yq_assign rfl (by (conv => lhs; whnf) <;> rfl)) ?_
  refine OW.nil ?_
  refine hK1 _ _ ?_
  refine CW.seq_k fun K2 hK2 => ?_
  refine CW.seq_k fun K3 hK3 => ?_
  refine CW.region ?_
  refine OW.q rfl rfl (yq_move rfl (by (conv => lhs; whnf) <;> rfl)) ?_
  refine OW.q rfl rfl (yq_len_slice rfl ts22 (by (conv => lhs; whnf) <;> rfl)) ?_
  refine OW.q rfl rfl (yq_gtr rfl (by (conv => lhs; whnf) <;> rfl) (by (conv => lhs; whnf) <;> rfl)) ?_
  refine OW.nil ?_
  refine hK3 _ _ ?_
  refine CW.cond_dec (by (conv => lhs; whnf) <;> rfl) (fun hc0 => ?_) (fun hc0 => ?_)
  · refine CW.seq_k fun K4 hK4 => ?_
    refine CW.region ?_
    refine OW.q rfl rfl (yq_call rfl rfl .nil en40 (fun w hw => found_calls w (Cl_gl0 hw hg))) ?_
    refine OW.q rfl rfl (yq_assign rfl (by (conv => lhs; whnf) <;> rfl)) ?_
    refine OW.nil ?_
    refine hK4 _ _ ?_
    refine CW.ret ?_
    refine then_ret ?_
    -- ret (ret)
    exact fin1 (Or.inr rfl) rfl ⟨by decide, (by (conv => lhs; whnf) <;> rfl)⟩ (fun w hw => ⟨rfl, hw.sub (List.nil_sublist _)⟩)
  · have hl60 : l.length ≤ 60 := by omega
    refine CW.skip ?_
    refine hK2 _ _ ?_
    refine CW.seq_k fun K5 hK5 => ?_
    refine CW.region ?_
    refine OW.q rfl rfl (yq_move rfl (by (conv => lhs; whnf) <;> rfl)) ?_
    refine OW.q rfl rfl (yq_call rfl rfl (.cons (by (conv => lhs; whnf) <;> rfl) .nil) en24 (fun w hw => root_calls _ l w (hs.mono hw) (by omega) (Cl_gl0 hw hg))) ?_
    refine OW.alloc rfl rfl rfl tz25 (fun b5 => ?_)
    refine OW.storeH rfl rfl rfl (by (conv => lhs; whnf) <;> rfl) (by (conv => lhs; whnf) <;> rfl) ti25 (by repeat' first | exact Put.head | apply Put.tail) (hc_length _) ?_
    refine OW.nil ?_
    refine hK5 _ _ ?_
    refine CW.seq_k fun K6 hK6 => ?_
    refine CW.seq_k fun K7 hK7 => ?_
    refine CW.region ?_
    refine OW.q rfl rfl (yq_assign rfl (by (conv => lhs; whnf) <;> rfl)) ?_
    refine OW.nil ?_
    refine hK7 _ _ ?_
    refine CW.block ?_
    refine CW.loop (σ := Nat) (fun j ρ L => Has ρ [(0, .slice a0 l.length cap0), (3, .pointer (some ⟨b3, 0, none⟩)), (5, .pointer (some ⟨b5, 0, none⟩)), (6, .int .i64 (j : Int))] ∧ j ≤ l.length ∧ L = [.blk b5 (hc (rootL l)) 25 (0, 0), .blk b3 (hc h) 25 (0, 0)]) (fun j => l.length - j) (0) ?_ ?_
    · exact ⟨Has.mk ⟨(by (conv => lhs; whnf) <;> rfl), (by (conv => lhs; whnf) <;> rfl), (by (conv => lhs; whnf) <;> rfl), (by (conv => lhs; whnf) <;> rfl), trivial⟩, by omega, rfl⟩
    · rintro j _ _ ⟨⟨ρ', rfl⟩, hj, rfl⟩
      refine CW.seq_k fun K8 hK8 => ?_
      refine CW.seq_k fun K9 hK9 => ?_
      refine CW.region ?_
      refine OW.q rfl rfl (yq_move rfl (by (conv => lhs; whnf) <;> rfl)) ?_
      refine OW.q rfl rfl (yq_move rfl (by (conv => lhs; whnf) <;> rfl)) ?_
      refine OW.q rfl rfl (yq_len_slice rfl ts22 (by (conv => lhs; whnf) <;> rfl)) ?_
      refine OW.q rfl rfl (yq_lss rfl (by (conv => lhs; whnf) <;> rfl) (by (conv => lhs; whnf) <;> rfl)) ?_
      refine OW.nil ?_
      refine hK9 _ _ ?_
      refine CW.cond_dec (by (conv => lhs; whnf) <;> rfl) (fun hc2 => ?_) (fun hc2 => ?_)
      · have hlt : j < l.length := by omega
        obtain ⟨b, off, cp, hv, hcp⟩ := hs.place (fun e => by subst e; simp at hlt)
        rw [Value.slice.injEq] at hv
        obtain ⟨rfl, _, rfl⟩ := hv
        refine CW.skip ?_
        refine hK8 _ _ ?_
        refine CW.seq_k fun K10 hK10 => ?_
        refine CW.block ?_
        refine CW.seq_k fun K11 hK11 => ?_
        refine CW.region ?_
        refine OW.q rfl rfl (yq_move rfl (by (conv => lhs; whnf) <;> rfl)) ?_
        refine OW.q rfl rfl (yq_move rfl (by (conv => lhs; whnf) <;> rfl)) ?_
        refine OW.calln rfl rfl rfl (by (conv => lhs; whnf) <;> rfl) (.cons (by (conv => lhs; whnf) <;> rfl) (.cons (by (conv => lhs; whnf) <;> rfl) .nil)) en41 (fun w hw => path_calls _ l (j : Int) w (hs.mono hw) (by omega) (by omega) (by omega) (Cl_gl0 hw hg)) ?_
        rintro _ _ ⟨_, rfl, a1, c1, rfl, rfl⟩
        have hin : ¬ ((j : Int) < 0 ∨ (l.length : Int) ≤ (j : Int)) := by omega
        rw [pathE_ok hin]
        obtain ⟨p, hp⟩ : ∃ p, p = pathR l (j : Int) := ⟨_, rfl⟩
        have hpp : p = pathL l j := by rw [hp, pathR_ok hin]
        have hpn : p.length = depth j l.length := by rw [hpp]; exact pathL_length _ l j (Nat.le_refl _)
        have hp6 : p.length ≤ 6 := by rw [hpp]; exact pathL_le l j 6 (by omega)
        have hk0 : checkL (l.getD j zeroHash) (j : Int) (l.length : Int) p (rootL l) = 0 := by rw [hpp]; exact check_own l j hlt (by omega)
        have hkx : ∀ q : List Hash, q.length ≠ p.length → checkL (l.getD j zeroHash) (j : Int) (l.length : Int) q (rootL l) = 80 := fun q hq => check_len _ _ j l.length q hlt (by omega) (by rw [← hpn]; exact hq)
        rw [← hp]
        refine OW.q rfl rfl (yq_move rfl (by (conv => lhs; whnf) <;> rfl)) ?_
        refine OW.q rfl rfl (yq_extract rfl (by (conv => lhs; whnf) <;> rfl) rfl) ?_
        refine OW.q rfl rfl (yq_extract rfl (by (conv => lhs; whnf) <;> rfl) rfl) ?_
        refine OW.q rfl rfl (yq_assign rfl (by (conv => lhs; whnf) <;> rfl)) ?_
        refine OW.q rfl rfl (yq_assign rfl (by (conv => lhs; whnf) <;> rfl)) ?_
        refine OW.nil ?_
        refine hK11 _ _ ?_
        refine CW.seq_k fun K12 hK12 => ?_
        refine CW.seq_k fun K13 hK13 => ?_
        refine CW.draw mixed (by kernel_rfl) ?_
        refine QW.q rfl rfl (yq_move rfl (by (conv => lhs; whnf) <;> rfl)) ?_
        refine QW.q rfl rfl ((yq_neq rfl (by (conv => lhs; whnf) <;> rfl) (by (conv => lhs; whnf) <;> rfl)).to (v' := .bool false) (by simp)) ?_
        refine QW.q rfl rfl (yq_move rfl (by (conv => lhs; whnf) <;> rfl)) ?_
        refine QW.q rfl rfl (yq_move rfl (by (conv => lhs; whnf) <;> rfl)) ?_
        refine QW.q rfl rfl (yq_len_slice rfl ts22 (by (conv => lhs; whnf) <;> rfl)) ?_
        refine QW.q rfl rfl ((yq_gtr rfl (by (conv => lhs; whnf) <;> rfl) (by (conv => lhs; whnf) <;> rfl)).to (v' := .bool false) (by rw [decide_eq_false (by omega)])) ?_
        refine QW.q rfl rfl (yq_pick rfl (by (conv => lhs; whnf) <;> rfl) (by (conv => lhs; whnf) <;> rfl)) ?_
        refine QW.q rfl rfl (yq_move rfl (by (conv => lhs; whnf) <;> rfl)) ?_
        refine QW.q rfl rfl (yq_move rfl (by (conv => lhs; whnf) <;> rfl)) ?_
        refine QW.q rfl rfl (yq_move rfl (by (conv => lhs; whnf) <;> rfl)) ?_
        refine QW.q rfl rfl (yq_index_slice rfl (by (conv => lhs; whnf) <;> rfl) (by (conv => lhs; whnf) <;> rfl) ts22 ti25 (by omega) (by omega)) ?_
        refine QW.q rfl rfl (yq_load_hs (i := j) (v := l.getD j zeroHash) rfl (by (conv => lhs; whnf) <;> rfl) ti25 (fun w hw => hs.mono hw) (at_of_lt hlt)) ?_
        refine QW.q rfl rfl (yq_move rfl (by (conv => lhs; whnf) <;> rfl)) ?_
        refine QW.q rfl rfl (yq_move rfl (by (conv => lhs; whnf) <;> rfl)) ?_
        refine QW.q rfl rfl (yq_len_slice rfl ts22 (by (conv => lhs; whnf) <;> rfl)) ?_
        refine QW.q rfl rfl (yq_move rfl (by (conv => lhs; whnf) <;> rfl)) ?_
        refine QW.q rfl rfl (yq_loadH rfl (by (conv => lhs; whnf) <;> rfl) ti25 (by repeat' first | exact List.mem_cons_self .. | apply List.mem_cons_of_mem)) ?_
        refine QW.q rfl rfl (yq_call rfl rfl (.cons (by (conv => lhs; whnf) <;> rfl) ( .cons (by (conv => lhs; whnf) <;> rfl) ( .cons (by (conv => lhs; whnf) <;> rfl) ( .cons (by (conv => lhs; whnf) <;> rfl) ( .cons (by (conv => lhs; whnf) <;> rfl) .nil))))) en49 (fun w hw => check_calls (l.getD j zeroHash) (rootL l) (j : Int) (l.length : Int) (p) _ w (by first | omega | (simp; omega)) (HsAt.row rfl (hw.own _ (by repeat' first | exact List.mem_cons_self .. | apply List.mem_cons_of_mem))) (Cl_gl0 hw hg))) ?_
        refine QW.q rfl rfl ((yq_neq rfl (by (conv => lhs; whnf) <;> rfl) (by (conv => lhs; whnf) <;> rfl)).to (v' := .bool false) (by rw [hk0]; simp)) ?_
        refine QW.q rfl rfl (yq_pick rfl (by (conv => lhs; whnf) <;> rfl) (by (conv => lhs; whnf) <;> rfl)) ?_
        refine QW.nil ?_
        refine hK13 _ _ ?_
        refine CW.cond_f (by (conv => lhs; whnf) <;> rfl) ?_
        refine CW.skip ?_
        refine hK12 _ _ ?_
        refine CW.seq_k fun K14 hK14 => ?_
        refine CW.cutR (fun ρ L => ∃ x y, Has ρ [(0, .slice (some ⟨b, off, none⟩) l.length cap0), (3, .pointer (some ⟨b3, 0, none⟩)), (5, .pointer (some ⟨b5, 0, none⟩)), (6, .int .i64 (j : Int)), (7, rowV a1 p.length c1), (61, .bool false)] ∧ L = [x, y, .row a1 c1 p.length 25 32 (p.flatMap hc), .blk b5 (hc (rootL l)) 25 (0, 0), .blk b3 (hc h) 25 (0, 0)]) ?_ ?_
        · refine CW.nilrow 25 32 ?_
          refine CW.held ([.row a1 c1 p.length 25 32 (p.flatMap hc), .blk b5 (hc (rootL l)) 25 (0, 0), .blk b3 (hc h) 25 (0, 0)]) mixed ?_
          refine HW.take 0 rfl (by kernel_rfl) (by kernel_rfl) (by kernel_rfl) rfl rfl (by repeat' first | exact List.Sublist.refl _ | exact List.nil_sublist _ | apply List.Sublist.cons) (yv_of_yq rfl (yq_move rfl (by (conv => lhs; whnf) <;> rfl))) ?_
          refine HW.take 1 rfl (by kernel_rfl) (by kernel_rfl) (by kernel_rfl) rfl rfl (by repeat' first | exact List.Sublist.refl _ | exact List.nil_sublist _ | apply List.Sublist.cons) (yv_of_yq rfl (yq_move rfl (by (conv => lhs; whnf) <;> rfl))) ?_
          refine HW.take 2 rfl (by kernel_rfl) (by kernel_rfl) (by kernel_rfl) rfl rfl (by repeat' first | exact List.Sublist.refl _ | exact List.nil_sublist _ | apply List.Sublist.cons) (yv_of_yq rfl (yq_index_slice rfl (by (conv => lhs; whnf) <;> rfl) (by (conv => lhs; whnf) <;> rfl) ts22 ti25 (by omega) (by omega))) ?_
          refine HW.take 3 rfl (by kernel_rfl) (by kernel_rfl) (by kernel_rfl) rfl rfl (by repeat' first | exact List.Sublist.refl _ | exact List.nil_sublist _ | apply List.Sublist.cons) (yv_of_yq rfl (yq_load_hs (i := j) (v := l.getD j zeroHash) rfl (by (conv => lhs; whnf) <;> rfl) ti25 (fun w hw => hs.mono hw) (at_of_lt hlt))) ?_
          refine HW.take 4 rfl (by kernel_rfl) (by kernel_rfl) (by kernel_rfl) rfl rfl (by repeat' first | exact List.Sublist.refl _ | exact List.nil_sublist _ | apply List.Sublist.cons) (yv_of_yq rfl (yq_move rfl (by (conv => lhs; whnf) <;> rfl))) ?_
          refine HW.take 5 rfl (by kernel_rfl) (by kernel_rfl) (by kernel_rfl) rfl rfl (by repeat' first | exact List.Sublist.refl _ | exact List.nil_sublist _ | apply List.Sublist.cons) (yv_of_yq rfl (yq_move rfl (by (conv => lhs; whnf) <;> rfl))) ?_
          refine HW.take 6 rfl (by kernel_rfl) (by kernel_rfl) (by kernel_rfl) rfl rfl (by repeat' first | exact List.Sublist.refl _ | exact List.nil_sublist _ | apply List.Sublist.cons) (yv_len_slice rfl ts22 (by (conv => lhs; whnf) <;> rfl)) ?_
          refine HW.take 7 rfl (by kernel_rfl) (by kernel_rfl) (by kernel_rfl) rfl rfl (by repeat' first | exact List.Sublist.refl _ | exact List.nil_sublist _ | apply List.Sublist.cons) (yv_of_yq rfl (yq_move rfl (by (conv => lhs; whnf) <;> rfl))) ?_
          refine HW.take 9 rfl (by kernel_rfl) (by kernel_rfl) (by kernel_rfl) rfl rfl (by repeat' first | exact List.Sublist.refl _ | exact List.nil_sublist _ | apply List.Sublist.cons) (yv_of_yq rfl (yq_loadH rfl (by (conv => lhs; whnf) <;> rfl) ti25 (by repeat' first | exact List.mem_cons_self .. | apply List.mem_cons_of_mem))) ?_
          refine HW.take 12 rfl (by kernel_rfl) (by kernel_rfl) (by kernel_rfl) rfl rfl (by repeat' first | exact List.Sublist.refl _ | exact List.nil_sublist _ | apply List.Sublist.cons) (yv_of_yq rfl (yq_loadH rfl (by (conv => lhs; whnf) <;> rfl) ti25 (by repeat' first | exact List.mem_cons_self .. | apply List.mem_cons_of_mem))) ?_
          refine HW.two 8 10 (by kernel_rfl) rfl rfl ?_ ?_
          · refine OW.appendRow (a := none) (cap := 0) (k := 0) rfl rfl rfl (by (conv => lhs; whnf) <;> rfl) (by (conv => lhs; whnf) <;> rfl) ts22 ti25 tz25 (by repeat' first | exact Del.head | apply Del.tail) (by repeat' first | exact List.mem_cons_self .. | apply List.mem_cons_of_mem) (by intro u hu; obtain ⟨x, _, hx⟩ := List.mem_flatMap.1 hu; exact hc_one x u hx) (hc_length _) (by decide) (by simp only [maxLen]; omega) (by omega) (fun a2 c2 => ?_)
            refine OW.nil ⟨rfl, (by repeat' first | exact List.Sublist.refl _ | exact List.nil_sublist _ | apply List.Sublist.cons), ?_⟩
            refine HW.one 10 (by kernel_rfl) rfl ?_
            refine OW.slicelit (vs := [HV h]) rfl rfl rfl rfl ts22 ti25 tz25 (by decide) rfl (by decide) (by simp [HV_cells]) (by decide) (cs := hc h) (by simp [HV_cells]) (fun bl => ?_)
            refine OW.nil ⟨rfl, (by repeat' first | exact List.Sublist.refl _ | exact List.nil_sublist _ | apply List.Sublist.cons), ?_⟩
            refine HW.one 11 (by kernel_rfl) rfl ?_
            refine OW.append (news := hc h) rfl rfl rfl (by (conv => lhs; whnf) <;> rfl) (by (conv => lhs; whnf) <;> rfl) ts22 ti25 tz25 (by repeat' first | exact Del.head | apply Del.tail) (blk_cells (by repeat' first | exact List.mem_cons_self .. | apply List.mem_cons_of_mem)) (by rw [hc_length]) (hc_one _) (hc_length _) (by decide) (by simp only [maxLen]; omega) (by omega) (fun a3 c3 => ?_)
            refine OW.nil ⟨rfl, (by repeat' first | exact List.Sublist.refl _ | exact List.nil_sublist _ | apply List.Sublist.cons), ?_⟩
            refine HW.one 13 (by kernel_rfl) rfl ?_
            refine OW.q rfl rfl (yq_call rfl rfl (.cons (by (conv => lhs; whnf) <;> rfl) ( .cons (by (conv => lhs; whnf) <;> rfl) ( .cons (by (conv => lhs; whnf) <;> rfl) ( .cons (by (conv => lhs; whnf) <;> rfl) ( .cons (by (conv => lhs; whnf) <;> rfl) .nil))))) en49 (fun w hw => check_calls (l.getD j zeroHash) (rootL l) (j : Int) (l.length : Int) (p ++ [h]) _ w (by first | omega | (simp; omega)) (hsRow (by simp) (by rw [List.nil_append, flat_snoc]) (hw.own _ (List.mem_cons_self ..))) (Cl_gl0 hw hg))) ?_
            refine OW.nil ⟨rfl, (by repeat' first | exact List.Sublist.refl _ | exact List.nil_sublist _ | apply List.Sublist.cons), ?_⟩
            refine HW.take 14 rfl (by kernel_rfl) (by kernel_rfl) (by kernel_rfl) rfl rfl (by repeat' first | exact List.Sublist.refl _ | exact List.nil_sublist _ | apply List.Sublist.cons) (yv_of_yq rfl ((yq_neq rfl (by (conv => lhs; whnf) <;> rfl) (by (conv => lhs; whnf) <;> rfl)).to (v' := .bool false) (by rw [hkx _ (by simp)]; simp))) ?_
            refine HW.done (by kernel_rfl) ?_
            exact ⟨rfl, _, _, Has.mk ⟨(by (conv => lhs; whnf) <;> rfl), (by (conv => lhs; whnf) <;> rfl), (by (conv => lhs; whnf) <;> rfl), (by (conv => lhs; whnf) <;> rfl), (by (conv => lhs; whnf) <;> rfl), (by (conv => lhs; whnf) <;> rfl), trivial⟩, rfl⟩
          · refine OW.slicelit (vs := [HV h]) rfl rfl rfl rfl ts22 ti25 tz25 (by decide) rfl (by decide) (by simp [HV_cells]) (by decide) (cs := hc h) (by simp [HV_cells]) (fun bl => ?_)
            refine OW.nil ⟨rfl, (by repeat' first | exact List.Sublist.refl _ | exact List.nil_sublist _ | apply List.Sublist.cons), ?_⟩
            refine HW.one 8 (by kernel_rfl) rfl ?_
            refine OW.appendRow (a := none) (cap := 0) (k := 0) rfl rfl rfl (by (conv => lhs; whnf) <;> rfl) (by (conv => lhs; whnf) <;> rfl) ts22 ti25 tz25 (by repeat' first | exact Del.head | apply Del.tail) (by repeat' first | exact List.mem_cons_self .. | apply List.mem_cons_of_mem) (by intro u hu; obtain ⟨x, _, hx⟩ := List.mem_flatMap.1 hu; exact hc_one x u hx) (hc_length _) (by decide) (by simp only [maxLen]; omega) (by omega) (fun a2 c2 => ?_)
            refine OW.nil ⟨rfl, (by repeat' first | exact List.Sublist.refl _ | exact List.nil_sublist _ | apply List.Sublist.cons), ?_⟩
            refine HW.one 11 (by kernel_rfl) rfl ?_
            refine OW.append (news := hc h) rfl rfl rfl (by (conv => lhs; whnf) <;> rfl) (by (conv => lhs; whnf) <;> rfl) ts22 ti25 tz25 (by repeat' first | exact Del.head | apply Del.tail) (blk_cells (by repeat' first | exact List.mem_cons_self .. | apply List.mem_cons_of_mem)) (by rw [hc_length]) (hc_one _) (hc_length _) (by decide) (by simp only [maxLen]; omega) (by omega) (fun a3 c3 => ?_)
            refine OW.nil ⟨rfl, (by repeat' first | exact List.Sublist.refl _ | exact List.nil_sublist _ | apply List.Sublist.cons), ?_⟩
            refine HW.one 13 (by kernel_rfl) rfl ?_
            refine OW.q rfl rfl (yq_call rfl rfl (.cons (by (conv => lhs; whnf) <;> rfl) ( .cons (by (conv => lhs; whnf) <;> rfl) ( .cons (by (conv => lhs; whnf) <;> rfl) ( .cons (by (conv => lhs; whnf) <;> rfl) ( .cons (by (conv => lhs; whnf) <;> rfl) .nil))))) en49 (fun w hw => check_calls (l.getD j zeroHash) (rootL l) (j : Int) (l.length : Int) (p ++ [h]) _ w (by first | omega | (simp; omega)) (hsRow (by simp) (by rw [List.nil_append, flat_snoc]) (hw.own _ (List.mem_cons_self ..))) (Cl_gl0 hw hg))) ?_
            refine OW.nil ⟨rfl, (by repeat' first | exact List.Sublist.refl _ | exact List.nil_sublist _ | apply List.Sublist.cons), ?_⟩
            refine HW.take 14 rfl (by kernel_rfl) (by kernel_rfl) (by kernel_rfl) rfl rfl (by repeat' first | exact List.Sublist.refl _ | exact List.nil_sublist _ | apply List.Sublist.cons) (yv_of_yq rfl ((yq_neq rfl (by (conv => lhs; whnf) <;> rfl) (by (conv => lhs; whnf) <;> rfl)).to (v' := .bool false) (by rw [hkx _ (by simp)]; simp))) ?_
            refine HW.done (by kernel_rfl) ?_
            exact ⟨rfl, _, _, Has.mk ⟨(by (conv => lhs; whnf) <;> rfl), (by (conv => lhs; whnf) <;> rfl), (by (conv => lhs; whnf) <;> rfl), (by (conv => lhs; whnf) <;> rfl), (by (conv => lhs; whnf) <;> rfl), (by (conv => lhs; whnf) <;> rfl), trivial⟩, rfl⟩
        · rintro _ _ ⟨x, y, ⟨ρ', rfl⟩, rfl⟩
          refine CW.cond_f (by (conv => lhs; whnf) <;> rfl) ?_
          refine CW.skip ?_
          refine hK14 _ _ ?_
          refine CW.seq_k fun K15 hK15 => ?_
          refine CW.know (p.length = 0 ∨ (0 < p.length ∧ ∃ g, a1 = some g ∧ p.length ≤ c1)) (fun w hw => ?_) ?_
          · rcases Nat.eq_zero_or_pos p.length with h0 | h0
            · exact .inl h0
            · obtain ⟨g1, hg1⟩ := know_row (a := a1) (cap := c1) (k := p.length) (T := 25) (s := 32) (xs := p.flatMap hc) (by repeat' first | exact List.mem_cons_self .. | apply List.mem_cons_of_mem) h0 w hw
              refine .inr ⟨h0, g1, hg1, ?_⟩
              subst hg1
              exact hsAt_cap (a := some ⟨g1, 0, none⟩) (n := p.length) (HsAt.row rfl (hw.own (.row (some g1) c1 p.length 25 32 (p.flatMap hc)) (by repeat' first | exact List.mem_cons_self .. | apply List.mem_cons_of_mem)))
          intro hkn
          refine CW.draw mixed (by kernel_rfl) ?_
          rcases hkn with hp0 | ⟨hp0, g1, rfl, hpc⟩
          · refine QW.q rfl rfl (yq_move rfl (by (conv => lhs; whnf) <;> rfl)) ?_
            refine QW.q rfl rfl (yq_len_slice rfl ts22 (by (conv => lhs; whnf) <;> rfl)) ?_
            refine QW.q rfl rfl ((yq_gtr rfl (by (conv => lhs; whnf) <;> rfl) (by (conv => lhs; whnf) <;> rfl)).to (v' := .bool false) (by rw [decide_eq_false (by omega)])) ?_
            refine QW.q rfl rfl (yq_move rfl (by (conv => lhs; whnf) <;> rfl)) ?_
            refine QW.skip rfl rfl ?_
            refine QW.skip rfl rfl ?_
            refine QW.skip rfl rfl ?_
            refine QW.skip rfl rfl ?_
            refine QW.skip rfl rfl ?_
            refine QW.skip rfl rfl ?_
            refine QW.skip rfl rfl ?_
            refine QW.skip rfl rfl ?_
            refine QW.skip rfl rfl ?_
            refine QW.skip rfl rfl ?_
            refine QW.skip rfl rfl ?_
            refine QW.skip rfl rfl ?_
            refine QW.skip rfl rfl ?_
            refine QW.skip rfl rfl ?_
            refine QW.skip rfl rfl ?_
            refine QW.skip rfl rfl ?_
            refine QW.skip rfl rfl ?_
            refine QW.skip rfl rfl ?_
            refine QW.skip rfl rfl ?_
            refine QW.skip rfl rfl ?_
            refine QW.skip rfl rfl ?_
            refine QW.skip rfl rfl ?_
            refine QW.skip rfl rfl ?_
            refine QW.skip rfl rfl ?_
            refine QW.skip rfl rfl ?_
            refine QW.skip rfl rfl ?_
            refine QW.skip rfl rfl ?_
            refine QW.skip rfl rfl ?_
            refine QW.skip rfl rfl ?_
            refine QW.q rfl rfl (yq_pick rfl (by (conv => lhs; whnf) <;> rfl) (by (conv => lhs; whnf) <;> rfl)) ?_
            refine QW.nil ?_
            refine hK15 _ _ ?_
            refine CW.cond_f (by (conv => lhs; whnf) <;> rfl) ?_
            refine CW.skip ?_
            refine hK10 _ _ ?_
            refine CW.region ?_
            refine OW.drop (L' := [.blk b5 (hc (rootL l)) 25 (0, 0), .blk b3 (hc h) 25 (0, 0)]) (by repeat' first | exact List.Sublist.refl _ | apply List.Sublist.cons) ?_
            refine OW.q rfl rfl (yq_move rfl (by (conv => lhs; whnf) <;> rfl)) ?_
            refine OW.q rfl rfl (yq_add rfl (by (conv => lhs; whnf) <;> rfl) (by (conv => lhs; whnf) <;> rfl) (by omega)) ?_
            refine OW.q rfl rfl (yq_assign rfl (by (conv => lhs; whnf) <;> rfl)) ?_
            refine OW.nil ?_
            exact ⟨j + 1, ⟨Has.mk ⟨(by (conv => lhs; whnf) <;> rfl), (by (conv => lhs; whnf) <;> rfl), (by (conv => lhs; whnf) <;> rfl), (by (conv => lhs; whnf) <;> rfl), trivial⟩, by omega, rfl⟩, by omega⟩
          · refine QW.q rfl rfl (yq_move rfl (by (conv => lhs; whnf) <;> rfl)) ?_
            refine QW.q rfl rfl (yq_len_slice rfl ts22 (by (conv => lhs; whnf) <;> rfl)) ?_
            refine QW.q rfl rfl ((yq_gtr rfl (by (conv => lhs; whnf) <;> rfl) (by (conv => lhs; whnf) <;> rfl)).to (v' := .bool true) (by rw [decide_eq_true (by omega)])) ?_
            refine QW.q rfl rfl (yq_move rfl (by (conv => lhs; whnf) <;> rfl)) ?_
            refine QW.q rfl rfl (yq_move rfl (by (conv => lhs; whnf) <;> rfl)) ?_
            refine QW.q rfl rfl (yq_move rfl (by (conv => lhs; whnf) <;> rfl)) ?_
            refine QW.q rfl rfl (yq_index_slice rfl (by (conv => lhs; whnf) <;> rfl) (by (conv => lhs; whnf) <;> rfl) ts22 ti25 (by omega) (by omega)) ?_
            refine QW.q rfl rfl (yq_load_hs (i := j) (v := l.getD j zeroHash) rfl (by (conv => lhs; whnf) <;> rfl) ti25 (fun w hw => hs.mono hw) (at_of_lt hlt)) ?_
            refine QW.q rfl rfl (yq_move rfl (by (conv => lhs; whnf) <;> rfl)) ?_
            refine QW.q rfl rfl (yq_move rfl (by (conv => lhs; whnf) <;> rfl)) ?_
            refine QW.q rfl rfl (yq_len_slice rfl ts22 (by (conv => lhs; whnf) <;> rfl)) ?_
            refine QW.q rfl rfl (yq_move rfl (by (conv => lhs; whnf) <;> rfl)) ?_
            refine QW.q rfl rfl (yq_slice_slice (b := g1) (off := 0) (len := p.length) (cap := c1) (l := 1) (h := p.length) rfl (by (conv => lhs; whnf) <;> rfl) ts22 ti25 ⟨_, _, (by (conv => lhs; whnf) <;> rfl), by omega, by omega⟩ rfl (by omega) (by omega)) ?_
            refine QW.q rfl rfl (yq_loadH rfl (by (conv => lhs; whnf) <;> rfl) ti25 (by repeat' first | exact List.mem_cons_self .. | apply List.mem_cons_of_mem)) ?_
            refine QW.q rfl rfl (yq_call rfl rfl (.cons (by (conv => lhs; whnf) <;> rfl) ( .cons (by (conv => lhs; whnf) <;> rfl) ( .cons (by (conv => lhs; whnf) <;> rfl) ( .cons (by (conv => lhs; whnf) <;> rfl) ( .cons (by (conv => lhs; whnf) <;> rfl) .nil))))) en49 (fun w hw => check_calls (l.getD j zeroHash) (rootL l) (j : Int) (l.length : Int) (p.drop 1) _ w (by first | omega | (simp; omega)) (sliceD (l := p) (HsAt.row (a := some g1) (cap := c1) rfl (hw.own _ (by repeat' first | exact List.mem_cons_self .. | apply List.mem_cons_of_mem))) 1 (by omega)) (Cl_gl0 hw hg))) ?_
            refine QW.q rfl rfl ((yq_neq rfl (by (conv => lhs; whnf) <;> rfl) (by (conv => lhs; whnf) <;> rfl)).to (v' := .bool false) (by rw [hkx _ (by simp; omega)]; simp)) ?_
            refine QW.q rfl rfl (yq_move rfl (by (conv => lhs; whnf) <;> rfl)) ?_
            refine QW.q rfl rfl (yq_move rfl (by (conv => lhs; whnf) <;> rfl)) ?_
            refine QW.q rfl rfl (yq_move rfl (by (conv => lhs; whnf) <;> rfl)) ?_
            refine QW.q rfl rfl (yq_index_slice rfl (by (conv => lhs; whnf) <;> rfl) (by (conv => lhs; whnf) <;> rfl) ts22 ti25 (by omega) (by omega)) ?_
            refine QW.q rfl rfl (yq_load_hs (i := j) (v := l.getD j zeroHash) rfl (by (conv => lhs; whnf) <;> rfl) ti25 (fun w hw => hs.mono hw) (at_of_lt hlt)) ?_
            refine QW.q rfl rfl (yq_move rfl (by (conv => lhs; whnf) <;> rfl)) ?_
            refine QW.q rfl rfl (yq_move rfl (by (conv => lhs; whnf) <;> rfl)) ?_
            refine QW.q rfl rfl (yq_len_slice rfl ts22 (by (conv => lhs; whnf) <;> rfl)) ?_
            refine QW.q rfl rfl (yq_move rfl (by (conv => lhs; whnf) <;> rfl)) ?_
            refine QW.q rfl rfl (yq_move rfl (by (conv => lhs; whnf) <;> rfl)) ?_
            refine QW.q rfl rfl (yq_len_slice rfl ts22 (by (conv => lhs; whnf) <;> rfl)) ?_
            refine QW.q rfl rfl (yq_sub_e (r := ((p.length - 1 : Nat) : Int)) rfl (by (conv => lhs; whnf) <;> rfl) (by (conv => lhs; whnf) <;> rfl) (by rw [wrap64_in (by omega)]; omega)) ?_
            refine QW.q rfl rfl (yq_slice_slice (b := g1) (off := 0) (len := p.length) (cap := c1) (l := 0) (h := p.length - 1) rfl (by (conv => lhs; whnf) <;> rfl) ts22 ti25 rfl ⟨_, _, (by (conv => lhs; whnf) <;> rfl), by omega, by omega⟩ (by omega) (by omega)) ?_
            refine QW.q rfl rfl (yq_loadH rfl (by (conv => lhs; whnf) <;> rfl) ti25 (by repeat' first | exact List.mem_cons_self .. | apply List.mem_cons_of_mem)) ?_
            refine QW.q rfl rfl (yq_call rfl rfl (.cons (by (conv => lhs; whnf) <;> rfl) ( .cons (by (conv => lhs; whnf) <;> rfl) ( .cons (by (conv => lhs; whnf) <;> rfl) ( .cons (by (conv => lhs; whnf) <;> rfl) ( .cons (by (conv => lhs; whnf) <;> rfl) .nil))))) en49 (fun w hw => check_calls (l.getD j zeroHash) (rootL l) (j : Int) (l.length : Int) (p.take (p.length - 1)) _ w (by first | omega | (simp; omega)) (sliceT (l := p) (HsAt.row (a := some g1) (cap := c1) rfl (hw.own _ (by repeat' first | exact List.mem_cons_self .. | apply List.mem_cons_of_mem))) (p.length - 1) (by omega)) (Cl_gl0 hw hg))) ?_
            refine QW.q rfl rfl ((yq_neq rfl (by (conv => lhs; whnf) <;> rfl) (by (conv => lhs; whnf) <;> rfl)).to (v' := .bool false) (by rw [hkx _ (by simp; omega)]; simp)) ?_
            refine QW.q rfl rfl (yq_pick rfl (by (conv => lhs; whnf) <;> rfl) (by (conv => lhs; whnf) <;> rfl)) ?_
            refine QW.q rfl rfl (yq_pick rfl (by (conv => lhs; whnf) <;> rfl) (by (conv => lhs; whnf) <;> rfl)) ?_
            refine QW.nil ?_
            refine hK15 _ _ ?_
            refine CW.cond_f (by (conv => lhs; whnf) <;> rfl) ?_
            refine CW.skip ?_
            refine hK10 _ _ ?_
            refine CW.region ?_
            refine OW.drop (L' := [.blk b5 (hc (rootL l)) 25 (0, 0), .blk b3 (hc h) 25 (0, 0)]) (by repeat' first | exact List.Sublist.refl _ | apply List.Sublist.cons) ?_
            refine OW.q rfl rfl (yq_move rfl (by (conv => lhs; whnf) <;> rfl)) ?_
            refine OW.q rfl rfl (yq_add rfl (by (conv => lhs; whnf) <;> rfl) (by (conv => lhs; whnf) <;> rfl) (by omega)) ?_
            refine OW.q rfl rfl (yq_assign rfl (by (conv => lhs; whnf) <;> rfl)) ?_
            refine OW.nil ?_
            exact ⟨j + 1, ⟨Has.mk ⟨(by (conv => lhs; whnf) <;> rfl), (by (conv => lhs; whnf) <;> rfl), (by (conv => lhs; whnf) <;> rfl), (by (conv => lhs; whnf) <;> rfl), trivial⟩, by omega, rfl⟩, by omega⟩
      · refine CW.exit ?_
        refine then_exit ?_
        refine then_exit ?_
        refine blockQ_hit ?_
        refine hK6 _ _ ?_
        refine CW.seq_k fun K16 hK16 => ?_
        refine CW.region ?_
        refine OW.q rfl rfl (yq_call rfl rfl .nil en40 (fun w hw => found_calls w (Cl_gl0 hw hg))) ?_
        refine OW.q rfl rfl (yq_assign rfl (by (conv => lhs; whnf) <;> rfl)) ?_
        refine OW.nil ?_
        refine hK16 _ _ ?_
        refine CW.ret ?_
        -- ret (ret)
        exact fin1 (Or.inr rfl) rfl ⟨by decide, (by (conv => lhs; whnf) <;> rfl)⟩ (fun w hw => ⟨rfl, hw.sub (List.nil_sublist _)⟩)

end Go.Proofs.YtahdekllphehkaaDoor
