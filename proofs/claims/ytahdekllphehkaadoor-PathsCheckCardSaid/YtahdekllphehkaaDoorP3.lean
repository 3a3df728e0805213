/- The walks of PathsPath; no statement of the seat is proved here. -/
import Derived.Test.YtahdekllphehkaaDoorP2
import Derived.Test.YtahdekllphehkaaDoorB1
import Derived.Test.YtahdekllphehkaaDoorL14
set_option linter.unusedVariables false
set_option linter.unusedSimpArgs false
namespace Go.Proofs.YtahdekllphehkaaDoor
open Go.WL Go.Spec

theorem sp2 : sp 2 = 1 := by rw [sp_dec]; decide
theorem sp4 : sp 4 = 2 := by rw [sp_dec]; decide
theorem sp5 : sp 5 = 4 := by rw [sp_dec]; decide
theorem path2_0 (a b : Hash) : pathL [a, b] 0 = [b] := by
  have e : sp ([a, b] : List Hash).length = 1 := sp2
  rw [pathL_left (by simp) (by rw [e]; decide), e]
  show pathL [a] 0 ++ [rootL [b]] = _
  rw [pathL_small _ (by simp), rootL_one]; rfl
theorem path4_2 (a b c d : Hash) : pathL [a, b, c, d] 2 = [d, node a b] := by
  have e : sp ([a, b, c, d] : List Hash).length = 2 := sp4
  rw [pathL_right (by simp) (by rw [e]; decide), e]
  show pathL [c, d] 0 ++ [rootL [a, b]] = _
  rw [path2_0, rootL_two]; rfl
theorem path5_2 (a b c d e : Hash) : pathL [a, b, c, d, e] 2 = [d, node a b, e] := by
  have h : sp ([a, b, c, d, e] : List Hash).length = 4 := sp5
  rw [pathL_left (by simp) (by rw [h]; decide), h]
  show pathL [a, b, c, d] 2 ++ [rootL [e]] = _
  rw [path4_2, rootL_one]; rfl
theorem path5_4 (a b c d e : Hash) : pathL [a, b, c, d, e] 4 = [rootL [a, b, c, d]] := by
  have h : sp ([a, b, c, d, e] : List Hash).length = 4 := sp5
  rw [pathL_right (by simp) (by rw [h]; decide), h]
  show pathL [e] 0 ++ [rootL [a, b, c, d]] = _
  rw [pathL_small _ (by simp)]; rfl
theorem depth5_2 : depth 2 5 = 3 := by
  rw [depth_left (by decide) (by rw [sp5]; decide), sp5, depth_right (by decide) (by rw [sp4]; decide), sp4, depth_left (by decide) (by rw [sp2]; decide), sp2, depth_small (by decide)]
theorem someL5 : someL 4 5 = [someH 4 0, someH 4 1, someH 4 2, someH 4 3, someH 4 4] := rfl
theorem fd_e (i : Int) (h : 0 ≤ i ∧ i < 5) : pathE (someL 4 5) i = 0 := pathE_ok (by rw [someL_length]; omega)
theorem fd_5 : pathE (someL 4 5) 5 = 2 := pathE_bad (by rw [someL_length]; omega)
theorem fd_2 : pathR (someL 4 5) 2 = [someH 4 3, node (someH 4 0) (someH 4 1), someH 4 4] := by
  rw [show (2 : Int) = ((2 : Nat) : Int) from rfl, pathR_ok (by rw [someL_length]; omega), someL5, path5_2]
theorem fd_4 : pathR (someL 4 5) 4 = pathL (someL 4 5) 4 := by rw [show (4 : Int) = ((4 : Nat) : Int) from rfl, pathR_ok (by rw [someL_length]; omega)]
theorem fd_41 : pathR (someL 4 5) 4 = [rootL ((someL 4 5).take 4)] := by rw [fd_4, someL5, path5_4]; rfl
theorem check_own (l : List Hash) (i : Nat) (hi : i < l.length) (hl : l.length ≤ 4096) : checkL (l.getD i zeroHash) (i : Int) (l.length : Int) (pathL l i) (rootL l) = 0 := by
  rw [checkL_in (by omega), come_path _ l i (Nat.le_refl _) hi, if_pos rfl]
theorem check_len (leaf root : Hash) (i n : Nat) (p : List Hash) (hi : i < n) (hn : n ≤ 4096) (hp : p.length ≠ depth i n) : checkL leaf (i : Int) (n : Int) p root = 80 := by
  rw [checkL_in (by omega), if_neg]
  intro h
  have := comeR_length leaf p.reverse i n (by omega) (by rw [h]; rfl)
  rw [List.length_reverse] at this
  exact hp this
theorem fd_c4 : checkL (someH 4 4) 4 5 (pathR (someL 4 5) 4) (rootL (someL 4 5)) = 0 := by
  have := check_own (someL 4 5) 4 (by rw [someL_length]; decide) (by rw [someL_length]; decide)
  rw [fd_4]
  rw [someL_length] at this
  exact this
theorem fd_c2 : checkL (someH 4 2) 2 5 (pathR (someL 4 5) 4) (rootL (someL 4 5)) = 80 :=
  check_len _ _ 2 5 _ (by decide) (by decide) (by rw [fd_41, depth5_2]; decide)
theorem hsBlk {w w0 : World} {E : List Nat} {L : List Ent} {b : Nat} {T : TypeId} {fz : Nat × Nat} (l : List Hash) (hc' : Cl w0 E L w) (hm : Ent.blk b (l.flatMap hc) T fz ∈ L) : HsAt w (.slice (some ⟨b, 0, none⟩) l.length l.length) l :=
  HsAt.blk (Nat.le_refl _) (fun _ _ h => h) (hc'.own _ hm)

set_option maxRecDepth 100000 in
set_option maxHeartbeats 1000000 in
theorem found_calls (w : World) (hg : GL w) : Calls Tryd.prog 40 #[] w fun e w' => e = .returned (.bool true) ∧ Cl w [] [] w' := by
  refine calls_of_CW (L := []) Tryd.func40 rfl (Nat.le_of_ble_eq_true rfl) (Cl.refl _) ?_
  refine CW.seq_k fun K1 hK1 => ?_
  refine CW.region ?_
  refine OW.q rfl rfl (yq_assign rfl (by (conv => lhs; whnf) <;> rfl)) ?_
  refine OW.nil ?_
  refine hK1 _ _ ?_
  refine CW.seq_k fun K2 hK2 => ?_
  refine CW.region ?_
  refine OW.calln rfl rfl rfl (by (conv => lhs; whnf) <;> rfl) (.cons (by (conv => lhs; whnf) <;> rfl) (.cons (by (conv => lhs; whnf) <;> rfl) .nil)) en26 (fun w hw => some_calls 5 4 w (by decide)) ?_
  rintro _ _ ⟨a, cap, rfl, rfl⟩
  refine OW.know _ (know_row (List.mem_cons_self ..) (by decide)) ?_
  rintro ⟨g, rfl⟩
  have hsR : ∀ {L' : List Ent} {w1 : World}, Cl w [] L' w1 → Ent.row (some g) cap 5 25 32 ((someL 4 5).flatMap hc) ∈ L' → HsAt w1 (rowV (some g) 5 cap) (someL 4 5) := fun hw1 hm => HsAt.row rfl (hw1.own _ hm)
  refine OW.know (5 ≤ cap) (fun w1 hw1 => hsAt_cap (a := some ⟨g, 0, none⟩) (n := 5) (hsR hw1 (List.mem_cons_self ..))) ?_
  intro hcap
  refine OW.q rfl rfl (yq_assign rfl (by (conv => lhs; whnf) <;> rfl)) ?_
  refine OW.nil ?_
  refine hK2 _ _ ?_
  refine CW.seq_k fun K3 hK3 => ?_
  refine CW.region ?_
  refine OW.q rfl rfl (yq_move rfl (by (conv => lhs; whnf) <;> rfl)) ?_
  refine OW.calln rfl rfl rfl (by (conv => lhs; whnf) <;> rfl) (.cons (by (conv => lhs; whnf) <;> rfl) (.cons (by (conv => lhs; whnf) <;> rfl) .nil)) en41 (fun w hw => path_calls _ (someL 4 5) 2 w (hsR hw (by repeat' first | exact List.mem_cons_self .. | apply List.mem_cons_of_mem)) (by rw [someL_length]; decide) (by decide) (by decide) (Cl_gl0 hw hg)) ?_
  rintro _ _ ⟨_, rfl, a2, c2, rfl, rfl⟩
  refine OW.q rfl rfl (yq_move rfl (by (conv => lhs; whnf) <;> rfl)) ?_
  refine OW.q rfl rfl (yq_extract rfl (by (conv => lhs; whnf) <;> rfl) rfl) ?_
  refine OW.q rfl rfl (yq_extract rfl (by (conv => lhs; whnf) <;> rfl) rfl) ?_
  refine OW.q rfl rfl (yq_assign rfl (by (conv => lhs; whnf) <;> rfl)) ?_
  refine OW.q rfl rfl (yq_assign rfl (by (conv => lhs; whnf) <;> rfl)) ?_
  refine OW.nil ?_
  refine hK3 _ _ ?_
  refine CW.seq_k fun K4 hK4 => ?_
  refine CW.region ?_
  refine OW.q rfl rfl (yq_move rfl (by (conv => lhs; whnf) <;> rfl)) ?_
  refine OW.calln rfl rfl rfl (by (conv => lhs; whnf) <;> rfl) (.cons (by (conv => lhs; whnf) <;> rfl) (.cons (by (conv => lhs; whnf) <;> rfl) .nil)) en41 (fun w hw => path_calls _ (someL 4 5) 4 w (hsR hw (by repeat' first | exact List.mem_cons_self .. | apply List.mem_cons_of_mem)) (by rw [someL_length]; decide) (by decide) (by decide) (Cl_gl0 hw hg)) ?_
  rintro _ _ ⟨_, rfl, a4, c4, rfl, rfl⟩
  refine OW.q rfl rfl (yq_move rfl (by (conv => lhs; whnf) <;> rfl)) ?_
  refine OW.q rfl rfl (yq_extract rfl (by (conv => lhs; whnf) <;> rfl) rfl) ?_
  refine OW.q rfl rfl (yq_extract rfl (by (conv => lhs; whnf) <;> rfl) rfl) ?_
  refine OW.q rfl rfl (yq_assign rfl (by (conv => lhs; whnf) <;> rfl)) ?_
  refine OW.q rfl rfl (yq_assign rfl (by (conv => lhs; whnf) <;> rfl)) ?_
  refine OW.nil ?_
  refine hK4 _ _ ?_
  refine CW.seq_k fun K5 hK5 => ?_
  refine CW.region ?_
  refine OW.q rfl rfl (yq_move rfl (by (conv => lhs; whnf) <;> rfl)) ?_
  refine OW.calln rfl rfl rfl (by (conv => lhs; whnf) <;> rfl) (.cons (by (conv => lhs; whnf) <;> rfl) (.cons (by (conv => lhs; whnf) <;> rfl) .nil)) en41 (fun w hw => path_calls _ (someL 4 5) 5 w (hsR hw (by repeat' first | exact List.mem_cons_self .. | apply List.mem_cons_of_mem)) (by rw [someL_length]; decide) (by decide) (by decide) (Cl_gl0 hw hg)) ?_
  rintro _ _ ⟨_, rfl, a5, c5, rfl, rfl⟩
  refine OW.q rfl rfl (yq_move rfl (by (conv => lhs; whnf) <;> rfl)) ?_
  refine OW.q rfl rfl (yq_extract rfl (by (conv => lhs; whnf) <;> rfl) rfl) ?_
  refine OW.q rfl rfl (yq_extract rfl (by (conv => lhs; whnf) <;> rfl) rfl) ?_
  refine OW.q rfl rfl (yq_assign rfl (by (conv => lhs; whnf) <;> rfl)) ?_
  refine OW.q rfl rfl (yq_assign rfl (by (conv => lhs; whnf) <;> rfl)) ?_
  refine OW.nil ?_
  refine hK5 _ _ ?_
  refine CW.seq_k fun K6 hK6 => ?_
  refine CW.region ?_
  refine OW.q rfl rfl (yq_move rfl (by (conv => lhs; whnf) <;> rfl)) ?_
  refine OW.q rfl rfl (yq_call rfl rfl (.cons (by (conv => lhs; whnf) <;> rfl) .nil) en24 (fun w hw => root_calls _ (someL 4 5) w (hsR hw (by repeat' first | exact List.mem_cons_self .. | apply List.mem_cons_of_mem)) (by rw [someL_length]; decide) (Cl_gl0 hw hg))) ?_
  refine OW.alloc rfl rfl rfl tz25 (fun b8 => ?_)
  refine OW.storeH rfl rfl rfl (by (conv => lhs; whnf) <;> rfl) (by (conv => lhs; whnf) <;> rfl) ti25 (by repeat' first | exact Put.head | apply Put.tail) (hc_length _) ?_
  refine OW.nil ?_
  refine hK6 _ _ ?_
  refine CW.seq_k fun K7 hK7 => ?_
  refine CW.heldL mixed ?_
  refine HW.take 0 rfl (by kernel_rfl) (by kernel_rfl) (by kernel_rfl) rfl rfl (by repeat' first | exact List.Sublist.refl _ | exact List.nil_sublist _ | apply List.Sublist.cons) (yv_of_yq rfl (yq_move rfl (by (conv => lhs; whnf) <;> rfl))) ?_
  refine HW.take 1 rfl (by kernel_rfl) (by kernel_rfl) (by kernel_rfl) rfl rfl (by repeat' first | exact List.Sublist.refl _ | exact List.nil_sublist _ | apply List.Sublist.cons) (yv_of_yq rfl ((yq_eql rfl (by (conv => lhs; whnf) <;> rfl) (by (conv => lhs; whnf) <;> rfl)).to (v' := .bool true) (by rw [decide_eq_true (fd_e 2 (by decide))]))) ?_
  refine HW.take 2 rfl (by kernel_rfl) (by kernel_rfl) (by kernel_rfl) rfl rfl (by repeat' first | exact List.Sublist.refl _ | exact List.nil_sublist _ | apply List.Sublist.cons) (yv_of_yq rfl (yq_move rfl (by (conv => lhs; whnf) <;> rfl))) ?_
  refine HW.take 3 rfl (by kernel_rfl) (by kernel_rfl) (by kernel_rfl) rfl rfl (by repeat' first | exact List.Sublist.refl _ | exact List.nil_sublist _ | apply List.Sublist.cons) (yv_of_yq rfl (yq_move rfl (by (conv => lhs; whnf) <;> rfl))) ?_
  refine HW.take 4 rfl (by kernel_rfl) (by kernel_rfl) (by kernel_rfl) rfl rfl (by repeat' first | exact List.Sublist.refl _ | exact List.nil_sublist _ | apply List.Sublist.cons) (yv_of_yq rfl ((yq_eql rfl (by (conv => lhs; whnf) <;> rfl) (by (conv => lhs; whnf) <;> rfl)).to (v' := .bool true) (by rw [decide_eq_true (fd_e 4 (by decide))]))) ?_
  refine HW.take 5 rfl (by kernel_rfl) (by kernel_rfl) (by kernel_rfl) rfl rfl (by repeat' first | exact List.Sublist.refl _ | exact List.nil_sublist _ | apply List.Sublist.cons) (yv_of_yq rfl (yq_pick rfl (by (conv => lhs; whnf) <;> rfl) (by (conv => lhs; whnf) <;> rfl))) ?_
  refine HW.take 6 rfl (by kernel_rfl) (by kernel_rfl) (by kernel_rfl) rfl rfl (by repeat' first | exact List.Sublist.refl _ | exact List.nil_sublist _ | apply List.Sublist.cons) (yv_of_yq rfl (yq_move rfl (by (conv => lhs; whnf) <;> rfl))) ?_
  refine HW.take 7 rfl (by kernel_rfl) (by kernel_rfl) (by kernel_rfl) rfl rfl (by repeat' first | exact List.Sublist.refl _ | exact List.nil_sublist _ | apply List.Sublist.cons) (yv_of_yq rfl (yq_move rfl (by (conv => lhs; whnf) <;> rfl))) ?_
  refine HW.take 8 rfl (by kernel_rfl) (by kernel_rfl) (by kernel_rfl) rfl rfl (by repeat' first | exact List.Sublist.refl _ | exact List.nil_sublist _ | apply List.Sublist.cons) (yv_of_yq rfl ((yq_eql rfl (by (conv => lhs; whnf) <;> rfl) (by (conv => lhs; whnf) <;> rfl)).to (v' := .bool true) (by rw [decide_eq_true fd_5]))) ?_
  refine HW.take 9 rfl (by kernel_rfl) (by kernel_rfl) (by kernel_rfl) rfl rfl (by repeat' first | exact List.Sublist.refl _ | exact List.nil_sublist _ | apply List.Sublist.cons) (yv_of_yq rfl (yq_pick rfl (by (conv => lhs; whnf) <;> rfl) (by (conv => lhs; whnf) <;> rfl))) ?_
  refine HW.take 10 rfl (by kernel_rfl) (by kernel_rfl) (by kernel_rfl) rfl rfl (by repeat' first | exact List.Sublist.refl _ | exact List.nil_sublist _ | apply List.Sublist.cons) (yv_of_yq rfl (yq_move rfl (by (conv => lhs; whnf) <;> rfl))) ?_
  refine HW.take 11 rfl (by kernel_rfl) (by kernel_rfl) (by kernel_rfl) rfl rfl (by repeat' first | exact List.Sublist.refl _ | exact List.nil_sublist _ | apply List.Sublist.cons) (yv_of_yq rfl (yq_move rfl (by (conv => lhs; whnf) <;> rfl))) ?_
  refine HW.take 12 rfl (by kernel_rfl) (by kernel_rfl) (by kernel_rfl) rfl rfl (by repeat' first | exact List.Sublist.refl _ | exact List.nil_sublist _ | apply List.Sublist.cons) (yv_of_yq rfl (yq_move rfl (by (conv => lhs; whnf) <;> rfl))) ?_
  refine HW.take 13 rfl (by kernel_rfl) (by kernel_rfl) (by kernel_rfl) rfl rfl (by repeat' first | exact List.Sublist.refl _ | exact List.nil_sublist _ | apply List.Sublist.cons) (yv_of_yq rfl (yq_index_slice rfl (by (conv => lhs; whnf) <;> rfl) (by (conv => lhs; whnf) <;> rfl) ts22 ti25 (by decide) (by decide))) ?_
  refine HW.take 14 rfl (by kernel_rfl) (by kernel_rfl) (by kernel_rfl) rfl rfl (by repeat' first | exact List.Sublist.refl _ | exact List.nil_sublist _ | apply List.Sublist.cons) (yv_of_yq rfl (yq_load_hs (i := 3) (v := someH 4 3) rfl (by (conv => lhs; whnf) <;> rfl) ti25 (fun w hw => hsR hw (by repeat' first | exact List.mem_cons_self .. | apply List.mem_cons_of_mem)) rfl)) ?_
  refine HW.take 15 rfl (by kernel_rfl) (by kernel_rfl) (by kernel_rfl) rfl rfl (by repeat' first | exact List.Sublist.refl _ | exact List.nil_sublist _ | apply List.Sublist.cons) (yv_of_yq rfl (yq_move rfl (by (conv => lhs; whnf) <;> rfl))) ?_
  refine HW.take 16 rfl (by kernel_rfl) (by kernel_rfl) (by kernel_rfl) rfl rfl (by repeat' first | exact List.Sublist.refl _ | exact List.nil_sublist _ | apply List.Sublist.cons) (yv_of_yq rfl (yq_index_slice rfl (by (conv => lhs; whnf) <;> rfl) (by (conv => lhs; whnf) <;> rfl) ts22 ti25 (by decide) (by decide))) ?_
  refine HW.take 17 rfl (by kernel_rfl) (by kernel_rfl) (by kernel_rfl) rfl rfl (by repeat' first | exact List.Sublist.refl _ | exact List.nil_sublist _ | apply List.Sublist.cons) (yv_of_yq rfl (yq_load_hs (i := 0) (v := someH 4 0) rfl (by (conv => lhs; whnf) <;> rfl) ti25 (fun w hw => hsR hw (by repeat' first | exact List.mem_cons_self .. | apply List.mem_cons_of_mem)) rfl)) ?_
  refine HW.take 18 rfl (by kernel_rfl) (by kernel_rfl) (by kernel_rfl) rfl rfl (by repeat' first | exact List.Sublist.refl _ | exact List.nil_sublist _ | apply List.Sublist.cons) (yv_of_yq rfl (yq_move rfl (by (conv => lhs; whnf) <;> rfl))) ?_
  refine HW.take 19 rfl (by kernel_rfl) (by kernel_rfl) (by kernel_rfl) rfl rfl (by repeat' first | exact List.Sublist.refl _ | exact List.nil_sublist _ | apply List.Sublist.cons) (yv_of_yq rfl (yq_index_slice rfl (by (conv => lhs; whnf) <;> rfl) (by (conv => lhs; whnf) <;> rfl) ts22 ti25 (by decide) (by decide))) ?_
  refine HW.take 20 rfl (by kernel_rfl) (by kernel_rfl) (by kernel_rfl) rfl rfl (by repeat' first | exact List.Sublist.refl _ | exact List.nil_sublist _ | apply List.Sublist.cons) (yv_of_yq rfl (yq_load_hs (i := 1) (v := someH 4 1) rfl (by (conv => lhs; whnf) <;> rfl) ti25 (fun w hw => hsR hw (by repeat' first | exact List.mem_cons_self .. | apply List.mem_cons_of_mem)) rfl)) ?_
  refine HW.take 22 rfl (by kernel_rfl) (by kernel_rfl) (by kernel_rfl) rfl rfl (by repeat' first | exact List.Sublist.refl _ | exact List.nil_sublist _ | apply List.Sublist.cons) (yv_of_yq rfl (yq_move rfl (by (conv => lhs; whnf) <;> rfl))) ?_
  refine HW.take 23 rfl (by kernel_rfl) (by kernel_rfl) (by kernel_rfl) rfl rfl (by repeat' first | exact List.Sublist.refl _ | exact List.nil_sublist _ | apply List.Sublist.cons) (yv_of_yq rfl (yq_index_slice rfl (by (conv => lhs; whnf) <;> rfl) (by (conv => lhs; whnf) <;> rfl) ts22 ti25 (by decide) (by decide))) ?_
  refine HW.take 24 rfl (by kernel_rfl) (by kernel_rfl) (by kernel_rfl) rfl rfl (by repeat' first | exact List.Sublist.refl _ | exact List.nil_sublist _ | apply List.Sublist.cons) (yv_of_yq rfl (yq_load_hs (i := 4) (v := someH 4 4) rfl (by (conv => lhs; whnf) <;> rfl) ti25 (fun w hw => hsR hw (by repeat' first | exact List.mem_cons_self .. | apply List.mem_cons_of_mem)) rfl)) ?_
  refine HW.one 21 (by kernel_rfl) rfl ?_
  refine OW.q rfl rfl (yq_call rfl rfl (.cons (by (conv => lhs; whnf) <;> rfl) ( .cons (by (conv => lhs; whnf) <;> rfl) .nil)) en27 (fun w hw => node_calls _ _ w (Cl_gl0 hw hg))) ?_
  refine OW.nil ⟨rfl, (by repeat' first | exact List.Sublist.refl _ | exact List.nil_sublist _ | apply List.Sublist.cons), ?_⟩
  refine HW.one 25 (by kernel_rfl) rfl ?_
  refine OW.slicelit (vs := [HV (someH 4 3), HV (node (someH 4 0) (someH 4 1)), HV (someH 4 4)]) rfl rfl rfl rfl ts22 ti25 tz25 (by decide) rfl (by decide) (by simp [HV_cells]) (by decide) (cs := ([(someH 4 3), (node (someH 4 0) (someH 4 1)), (someH 4 4)] : List Hash).flatMap hc) (by simp [HV_cells]) (fun bl => ?_)
  refine OW.nil ⟨rfl, (by repeat' first | exact List.Sublist.refl _ | exact List.nil_sublist _ | apply List.Sublist.cons), ?_⟩
  refine HW.one 26 (by kernel_rfl) rfl ?_
  refine OW.q rfl rfl ((yq_call rfl rfl (.cons (by (conv => lhs; whnf) <;> rfl) (.cons (by (conv => lhs; whnf) <;> rfl) .nil)) en43 (fun w hw => same_calls (pathR (someL 4 5) 2) [someH 4 3, node (someH 4 0) (someH 4 1), someH 4 4] _ _ w (by rw [fd_2]; decide) (HsAt.row rfl (hw.own _ (by repeat' first | exact List.mem_cons_self .. | apply List.mem_cons_of_mem))) (hsBlk _ hw (by repeat' first | exact List.mem_cons_self .. | apply List.mem_cons_of_mem)))).to (v' := .bool true) (by rw [decide_eq_true fd_2])) ?_
  refine OW.nil ⟨rfl, (by repeat' first | exact List.Sublist.refl _ | exact List.nil_sublist _ | apply List.Sublist.cons), ?_⟩
  refine HW.take 27 rfl (by kernel_rfl) (by kernel_rfl) (by kernel_rfl) rfl rfl (by repeat' first | exact List.Sublist.refl _ | exact List.nil_sublist _ | apply List.Sublist.cons) (yv_of_yq rfl (yq_pick rfl (by (conv => lhs; whnf) <;> rfl) (by (conv => lhs; whnf) <;> rfl))) ?_
  refine HW.take 28 rfl (by kernel_rfl) (by kernel_rfl) (by kernel_rfl) rfl rfl (by repeat' first | exact List.Sublist.refl _ | exact List.nil_sublist _ | apply List.Sublist.cons) (yv_of_yq rfl (yq_move rfl (by (conv => lhs; whnf) <;> rfl))) ?_
  refine HW.take 29 rfl (by kernel_rfl) (by kernel_rfl) (by kernel_rfl) rfl rfl (by repeat' first | exact List.Sublist.refl _ | exact List.nil_sublist _ | apply List.Sublist.cons) (yv_of_yq rfl (yq_move rfl (by (conv => lhs; whnf) <;> rfl))) ?_
  refine HW.take 30 rfl (by kernel_rfl) (by kernel_rfl) (by kernel_rfl) rfl rfl (by repeat' first | exact List.Sublist.refl _ | exact List.nil_sublist _ | apply List.Sublist.cons) (yv_of_yq rfl (yq_move rfl (by (conv => lhs; whnf) <;> rfl))) ?_
  refine HW.take 31 rfl (by kernel_rfl) (by kernel_rfl) (by kernel_rfl) rfl rfl (by repeat' first | exact List.Sublist.refl _ | exact List.nil_sublist _ | apply List.Sublist.cons) (yv_of_yq rfl (yq_slice_slice (b := g) (off := 0) (len := 5) (cap := cap) (l := 0) (h := 4) rfl (by (conv => lhs; whnf) <;> rfl) ts22 ti25 rfl ⟨_, _, (by (conv => lhs; whnf) <;> rfl), by omega, by omega⟩ (by omega) (by omega))) ?_
  refine HW.one 32 (by kernel_rfl) rfl ?_
  refine OW.q rfl rfl (yq_call rfl rfl (.cons (by (conv => lhs; whnf) <;> rfl) .nil) en24 (fun w hw => root_calls _ ((someL 4 5).take 4) w (sliceT (l := someL 4 5) (hsR hw (by repeat' first | exact List.mem_cons_self .. | apply List.mem_cons_of_mem)) 4 (by rw [someL_length]; decide)) (by rw [List.length_take, someL_length]; decide) (Cl_gl0 hw hg))) ?_
  refine OW.nil ⟨rfl, (by repeat' first | exact List.Sublist.refl _ | exact List.nil_sublist _ | apply List.Sublist.cons), ?_⟩
  refine HW.one 33 (by kernel_rfl) rfl ?_
  refine OW.slicelit (vs := [HV (rootL ((someL 4 5).take 4))]) rfl rfl rfl rfl ts22 ti25 tz25 (by decide) rfl (by decide) (by simp [HV_cells]) (by decide) (cs := ([(rootL ((someL 4 5).take 4))] : List Hash).flatMap hc) (by simp [HV_cells]) (fun bl => ?_)
  refine OW.nil ⟨rfl, (by repeat' first | exact List.Sublist.refl _ | exact List.nil_sublist _ | apply List.Sublist.cons), ?_⟩
  refine HW.one 34 (by kernel_rfl) rfl ?_
  refine OW.q rfl rfl ((yq_call rfl rfl (.cons (by (conv => lhs; whnf) <;> rfl) (.cons (by (conv => lhs; whnf) <;> rfl) .nil)) en43 (fun w hw => same_calls (pathR (someL 4 5) 4) [rootL ((someL 4 5).take 4)] _ _ w (by rw [fd_41]; decide) (HsAt.row rfl (hw.own _ (by repeat' first | exact List.mem_cons_self .. | apply List.mem_cons_of_mem))) (hsBlk _ hw (by repeat' first | exact List.mem_cons_self .. | apply List.mem_cons_of_mem)))).to (v' := .bool true) (by rw [decide_eq_true fd_41])) ?_
  refine OW.nil ⟨rfl, (by repeat' first | exact List.Sublist.refl _ | exact List.nil_sublist _ | apply List.Sublist.cons), ?_⟩
  refine HW.take 35 rfl (by kernel_rfl) (by kernel_rfl) (by kernel_rfl) rfl rfl (by repeat' first | exact List.Sublist.refl _ | exact List.nil_sublist _ | apply List.Sublist.cons) (yv_of_yq rfl (yq_pick rfl (by (conv => lhs; whnf) <;> rfl) (by (conv => lhs; whnf) <;> rfl))) ?_
  refine HW.take 36 rfl (by kernel_rfl) (by kernel_rfl) (by kernel_rfl) rfl rfl (by repeat' first | exact List.Sublist.refl _ | exact List.nil_sublist _ | apply List.Sublist.cons) (yv_of_yq rfl (yq_move rfl (by (conv => lhs; whnf) <;> rfl))) ?_
  refine HW.take 37 rfl (by kernel_rfl) (by kernel_rfl) (by kernel_rfl) rfl rfl (by repeat' first | exact List.Sublist.refl _ | exact List.nil_sublist _ | apply List.Sublist.cons) (yv_of_yq rfl (yq_move rfl (by (conv => lhs; whnf) <;> rfl))) ?_
  refine HW.take 38 rfl (by kernel_rfl) (by kernel_rfl) (by kernel_rfl) rfl rfl (by repeat' first | exact List.Sublist.refl _ | exact List.nil_sublist _ | apply List.Sublist.cons) (yv_of_yq rfl (yq_index_slice rfl (by (conv => lhs; whnf) <;> rfl) (by (conv => lhs; whnf) <;> rfl) ts22 ti25 (by decide) (by decide))) ?_
  refine HW.take 39 rfl (by kernel_rfl) (by kernel_rfl) (by kernel_rfl) rfl rfl (by repeat' first | exact List.Sublist.refl _ | exact List.nil_sublist _ | apply List.Sublist.cons) (yv_of_yq rfl (yq_load_hs (i := 4) (v := someH 4 4) rfl (by (conv => lhs; whnf) <;> rfl) ti25 (fun w hw => hsR hw (by repeat' first | exact List.mem_cons_self .. | apply List.mem_cons_of_mem)) rfl)) ?_
  refine HW.take 40 rfl (by kernel_rfl) (by kernel_rfl) (by kernel_rfl) rfl rfl (by repeat' first | exact List.Sublist.refl _ | exact List.nil_sublist _ | apply List.Sublist.cons) (yv_of_yq rfl (yq_move rfl (by (conv => lhs; whnf) <;> rfl))) ?_
  refine HW.take 41 rfl (by kernel_rfl) (by kernel_rfl) (by kernel_rfl) rfl rfl (by repeat' first | exact List.Sublist.refl _ | exact List.nil_sublist _ | apply List.Sublist.cons) (yv_of_yq rfl (yq_loadH rfl (by (conv => lhs; whnf) <;> rfl) ti25 (by repeat' first | exact List.mem_cons_self .. | apply List.mem_cons_of_mem))) ?_
  refine HW.one 42 (by kernel_rfl) rfl ?_
  refine OW.q rfl rfl (yq_call rfl rfl (.cons (by (conv => lhs; whnf) <;> rfl) ( .cons (by (conv => lhs; whnf) <;> rfl) ( .cons (by (conv => lhs; whnf) <;> rfl) ( .cons (by (conv => lhs; whnf) <;> rfl) ( .cons (by (conv => lhs; whnf) <;> rfl) .nil))))) en49 (fun w hw => check_calls (someH 4 4) (rootL (someL 4 5)) 4 5 (pathR (someL 4 5) 4) _ w (by rw [fd_41]; decide) (HsAt.row rfl (hw.own _ (by repeat' first | exact List.mem_cons_self .. | apply List.mem_cons_of_mem))) (Cl_gl0 hw hg))) ?_
  refine OW.nil ⟨rfl, (by repeat' first | exact List.Sublist.refl _ | exact List.nil_sublist _ | apply List.Sublist.cons), ?_⟩
  refine HW.take 43 rfl (by kernel_rfl) (by kernel_rfl) (by kernel_rfl) rfl rfl (by repeat' first | exact List.Sublist.refl _ | exact List.nil_sublist _ | apply List.Sublist.cons) (yv_of_yq rfl ((yq_eql rfl (by (conv => lhs; whnf) <;> rfl) (by (conv => lhs; whnf) <;> rfl)).to (v' := .bool true) (by rw [decide_eq_true fd_c4]))) ?_
  refine HW.take 44 rfl (by kernel_rfl) (by kernel_rfl) (by kernel_rfl) rfl rfl (by repeat' first | exact List.Sublist.refl _ | exact List.nil_sublist _ | apply List.Sublist.cons) (yv_of_yq rfl (yq_pick rfl (by (conv => lhs; whnf) <;> rfl) (by (conv => lhs; whnf) <;> rfl))) ?_
  refine HW.take 45 rfl (by kernel_rfl) (by kernel_rfl) (by kernel_rfl) rfl rfl (by repeat' first | exact List.Sublist.refl _ | exact List.nil_sublist _ | apply List.Sublist.cons) (yv_of_yq rfl (yq_move rfl (by (conv => lhs; whnf) <;> rfl))) ?_
  refine HW.take 46 rfl (by kernel_rfl) (by kernel_rfl) (by kernel_rfl) rfl rfl (by repeat' first | exact List.Sublist.refl _ | exact List.nil_sublist _ | apply List.Sublist.cons) (yv_of_yq rfl (yq_move rfl (by (conv => lhs; whnf) <;> rfl))) ?_
  refine HW.take 47 rfl (by kernel_rfl) (by kernel_rfl) (by kernel_rfl) rfl rfl (by repeat' first | exact List.Sublist.refl _ | exact List.nil_sublist _ | apply List.Sublist.cons) (yv_of_yq rfl (yq_index_slice rfl (by (conv => lhs; whnf) <;> rfl) (by (conv => lhs; whnf) <;> rfl) ts22 ti25 (by decide) (by decide))) ?_
  refine HW.take 48 rfl (by kernel_rfl) (by kernel_rfl) (by kernel_rfl) rfl rfl (by repeat' first | exact List.Sublist.refl _ | exact List.nil_sublist _ | apply List.Sublist.cons) (yv_of_yq rfl (yq_load_hs (i := 2) (v := someH 4 2) rfl (by (conv => lhs; whnf) <;> rfl) ti25 (fun w hw => hsR hw (by repeat' first | exact List.mem_cons_self .. | apply List.mem_cons_of_mem)) rfl)) ?_
  refine HW.take 49 rfl (by kernel_rfl) (by kernel_rfl) (by kernel_rfl) rfl rfl (by repeat' first | exact List.Sublist.refl _ | exact List.nil_sublist _ | apply List.Sublist.cons) (yv_of_yq rfl (yq_move rfl (by (conv => lhs; whnf) <;> rfl))) ?_
  refine HW.take 50 rfl (by kernel_rfl) (by kernel_rfl) (by kernel_rfl) rfl rfl (by repeat' first | exact List.Sublist.refl _ | exact List.nil_sublist _ | apply List.Sublist.cons) (yv_of_yq rfl (yq_loadH rfl (by (conv => lhs; whnf) <;> rfl) ti25 (by repeat' first | exact List.mem_cons_self .. | apply List.mem_cons_of_mem))) ?_
  refine HW.one 51 (by kernel_rfl) rfl ?_
  refine OW.q rfl rfl (yq_call rfl rfl (.cons (by (conv => lhs; whnf) <;> rfl) ( .cons (by (conv => lhs; whnf) <;> rfl) ( .cons (by (conv => lhs; whnf) <;> rfl) ( .cons (by (conv => lhs; whnf) <;> rfl) ( .cons (by (conv => lhs; whnf) <;> rfl) .nil))))) en49 (fun w hw => check_calls (someH 4 2) (rootL (someL 4 5)) 2 5 (pathR (someL 4 5) 4) _ w (by rw [fd_41]; decide) (HsAt.row rfl (hw.own _ (by repeat' first | exact List.mem_cons_self .. | apply List.mem_cons_of_mem))) (Cl_gl0 hw hg))) ?_
  refine OW.nil ⟨rfl, (by repeat' first | exact List.Sublist.refl _ | exact List.nil_sublist _ | apply List.Sublist.cons), ?_⟩
  refine HW.take 52 rfl (by kernel_rfl) (by kernel_rfl) (by kernel_rfl) rfl rfl (by repeat' first | exact List.Sublist.refl _ | exact List.nil_sublist _ | apply List.Sublist.cons) (yv_of_yq rfl ((yq_eql rfl (by (conv => lhs; whnf) <;> rfl) (by (conv => lhs; whnf) <;> rfl)).to (v' := .bool true) (by rw [decide_eq_true fd_c2]))) ?_
  refine HW.take 53 rfl (by kernel_rfl) (by kernel_rfl) (by kernel_rfl) rfl rfl (by repeat' first | exact List.Sublist.refl _ | exact List.nil_sublist _ | apply List.Sublist.cons) (yv_of_yq rfl (yq_pick rfl (by (conv => lhs; whnf) <;> rfl) (by (conv => lhs; whnf) <;> rfl))) ?_
  refine HW.take 54 rfl (by kernel_rfl) (by kernel_rfl) (by kernel_rfl) rfl rfl (by repeat' first | exact List.Sublist.refl _ | exact List.nil_sublist _ | apply List.Sublist.cons) (yv_of_yq rfl (yq_assign rfl (by (conv => lhs; whnf) <;> rfl))) ?_
  refine HW.done (by kernel_rfl) ?_
  refine hK7 _ _ ?_
  refine CW.ret ?_
  -- ret (ret)
  exact fin1 (Or.inr rfl) rfl ⟨by decide, (by (conv => lhs; whnf) <;> rfl)⟩ (fun w hw => ⟨rfl, hw.sub (List.nil_sublist _)⟩)

set_option maxRecDepth 100000 in
set_option maxHeartbeats 1000000 in
theorem pathsPath_calls (v : Value) (l : List Hash) (i : Int) (w : World) (hs : HsAt w v l) (hi1 : -9223372036854775808 ≤ i) (hi2 : i ≤ 9223372036854775807) (hg : GL w) :
    Calls Tryd.prog 7 #[v, .int .i64 i] w fun e w' => e = .returned (.bool true) ∧ Cl w [] [] w' := by
  have hs0 := hs
  obtain ⟨a0, cap0, rfl⟩ := hs0.len
  refine calls_of_CW (L := []) Tryd.func7 rfl (Nat.le_of_ble_eq_true rfl) (Cl.refl _) ?_
  refine CW.seq_k fun K1 hK1 => ?_
  refine CW.region ?_
  refine OW.q rfl rfl (yq_assign rfl (by (conv => lhs; whnf) <;> rfl)) ?_
  refine OW.nil ?_
  refine hK1 _ _ ?_
  refine CW.seq_k fun K2 hK2 => ?_
  refine CW.seq_k fun K3 hK3 => ?_
  refine CW.region ?_
  refine OW.q rfl rfl (yq_move rfl (by (conv => lhs; whnf) <;> rfl)) ?_
  refine OW.q rfl rfl (yq_len_slice rfl ts22 (by (conv => lhs; whnf) <;> rfl)) ?_
  refine OW.q rfl rfl (yq_gtr rfl (by (conv => lhs; whnf) <;> rfl) (by (conv => lhs; whnf) <;> rfl)) ?_
  refine OW.nil ?_
  refine hK3 _ _ ?_
  refine CW.cond_dec (by (conv => lhs; whnf) <;> rfl) (fun hc0 => ?_) (fun hc0 => ?_)
  · refine CW.seq_k fun K4 hK4 => ?_
    refine CW.region ?_
    refine OW.q rfl rfl (yq_call rfl rfl .nil en40 (fun w hw => found_calls w (Cl_gl0 hw hg))) ?_
    refine OW.q rfl rfl (yq_assign rfl (by (conv => lhs; whnf) <;> rfl)) ?_
    refine OW.nil ?_
    refine hK4 _ _ ?_
    refine CW.ret ?_
    refine then_ret ?_
    -- ret (ret)
    exact fin1 (Or.inr rfl) rfl ⟨by decide, (by (conv => lhs; whnf) <;> rfl)⟩ (fun w hw => ⟨rfl, hw.sub (List.nil_sublist _)⟩)
  · have hl80 : l.length ≤ 80 := by omega
    refine CW.skip ?_
    refine hK2 _ _ ?_
    refine CW.seq_k fun K5 hK5 => ?_
    refine CW.seq_k fun K6 hK6 => ?_
    refine CW.region ?_
    refine OW.q rfl rfl (yq_assign rfl (by (conv => lhs; whnf) <;> rfl)) ?_
    refine OW.nil ?_
    refine hK6 _ _ ?_
    refine CW.block ?_
    refine CW.loop (σ := Nat) (fun j ρ L => Has ρ [(0, .slice a0 l.length cap0), (1, .int .i64 i), (5, .int .i64 ((j : Int) - 1))] ∧ j ≤ l.length + 3 ∧ L = []) (fun j => l.length + 3 - j) (0) ?_ ?_
    · exact ⟨Has.mk ⟨(by (conv => lhs; whnf) <;> rfl), (by (conv => lhs; whnf) <;> rfl), (by (conv => lhs; whnf) <;> rfl), trivial⟩, by omega, rfl⟩
    · rintro j _ _ ⟨⟨ρ', rfl⟩, hj, rfl⟩
      refine CW.seq_k fun K7 hK7 => ?_
      refine CW.seq_k fun K8 hK8 => ?_
      refine CW.region ?_
      refine OW.q rfl rfl (yq_move rfl (by (conv => lhs; whnf) <;> rfl)) ?_
      refine OW.q rfl rfl (yq_move rfl (by (conv => lhs; whnf) <;> rfl)) ?_
      refine OW.q rfl rfl (yq_len_slice rfl ts22 (by (conv => lhs; whnf) <;> rfl)) ?_
      refine OW.q rfl rfl (yq_add rfl (by (conv => lhs; whnf) <;> rfl) (by (conv => lhs; whnf) <;> rfl) (by omega)) ?_
      refine OW.q rfl rfl (yq_leq rfl (by (conv => lhs; whnf) <;> rfl) (by (conv => lhs; whnf) <;> rfl)) ?_
      refine OW.nil ?_
      refine hK8 _ _ ?_
      refine CW.cond_dec (by (conv => lhs; whnf) <;> rfl) (fun hc2 => ?_) (fun hc2 => ?_)
      · refine CW.skip ?_
        refine hK7 _ _ ?_
        refine CW.seq_k fun K9 hK9 => ?_
        refine CW.block ?_
        refine CW.seq_k fun K10 hK10 => ?_
        refine CW.region ?_
        refine OW.q rfl rfl (yq_move rfl (by (conv => lhs; whnf) <;> rfl)) ?_
        refine OW.q rfl rfl (yq_assign rfl (by (conv => lhs; whnf) <;> rfl)) ?_
        refine OW.nil ?_
        refine hK10 _ _ ?_
        refine CW.seq_k fun K11 hK11 => ?_
        refine CW.seq_k fun K12 hK12 => ?_
        refine CW.region ?_
        refine OW.q rfl rfl (yq_move rfl (by (conv => lhs; whnf) <;> rfl)) ?_
        refine OW.q rfl rfl (yq_move rfl (by (conv => lhs; whnf) <;> rfl)) ?_
        refine OW.q rfl rfl (yq_len_slice rfl ts22 (by (conv => lhs; whnf) <;> rfl)) ?_
        refine OW.q rfl rfl (yq_add rfl (by (conv => lhs; whnf) <;> rfl) (by (conv => lhs; whnf) <;> rfl) (by omega)) ?_
        refine OW.q rfl rfl (yq_eql rfl (by (conv => lhs; whnf) <;> rfl) (by (conv => lhs; whnf) <;> rfl)) ?_
        refine OW.nil ?_
        refine hK12 _ _ ?_
        refine CW.cutK (fun ρ L => ∃ z : Int, -9223372036854775808 ≤ z ∧ z ≤ 9223372036854775807 ∧ Has ρ [(0, .slice a0 l.length cap0), (1, .int .i64 i), (5, .int .i64 ((j : Int) - 1)), (6, .int .i64 z)] ∧ L = []) ?_ ?_
        · refine CW.cond_dec (by (conv => lhs; whnf) <;> rfl) (fun hc4 => ?_) (fun hc4 => ?_)
          · refine CW.region ?_
            refine OW.q rfl rfl (yq_move rfl (by (conv => lhs; whnf) <;> rfl)) ?_
            refine OW.q rfl rfl (yq_assign rfl (by (conv => lhs; whnf) <;> rfl)) ?_
            refine OW.nil ?_
            exact ⟨i, hi1, hi2, Has.mk ⟨(by (conv => lhs; whnf) <;> rfl), (by (conv => lhs; whnf) <;> rfl), (by (conv => lhs; whnf) <;> rfl), (by (conv => lhs; whnf) <;> rfl), trivial⟩, rfl⟩
          · refine CW.skip ?_
            exact ⟨(j : Int) - 1, by omega, by omega, Has.mk ⟨(by (conv => lhs; whnf) <;> rfl), (by (conv => lhs; whnf) <;> rfl), (by (conv => lhs; whnf) <;> rfl), (by (conv => lhs; whnf) <;> rfl), trivial⟩, rfl⟩
        · rintro _ _ ⟨z, hz1, hz2, ⟨ρ', rfl⟩, rfl⟩
          refine hK11 _ _ ?_
          refine CW.seq_k fun K13 hK13 => ?_
          refine CW.region ?_
          refine OW.q rfl rfl (yq_move rfl (by (conv => lhs; whnf) <;> rfl)) ?_
          refine OW.q rfl rfl (yq_move rfl (by (conv => lhs; whnf) <;> rfl)) ?_
          refine OW.calln rfl rfl rfl (by (conv => lhs; whnf) <;> rfl) (.cons (by (conv => lhs; whnf) <;> rfl) (.cons (by (conv => lhs; whnf) <;> rfl) .nil)) en41 (fun w hw => path_calls _ l z w (hs.mono hw) (by omega) hz1 hz2 (Cl_gl0 hw hg)) ?_
          rintro _ _ ⟨_, rfl, a1, c1, rfl, rfl⟩
          refine OW.q rfl rfl (yq_move rfl (by (conv => lhs; whnf) <;> rfl)) ?_
          refine OW.q rfl rfl (yq_extract rfl (by (conv => lhs; whnf) <;> rfl) rfl) ?_
          refine OW.q rfl rfl (yq_extract rfl (by (conv => lhs; whnf) <;> rfl) rfl) ?_
          refine OW.q rfl rfl (yq_assign rfl (by (conv => lhs; whnf) <;> rfl)) ?_
          refine OW.q rfl rfl (yq_assign rfl (by (conv => lhs; whnf) <;> rfl)) ?_
          refine OW.nil ?_
          refine hK13 _ _ ?_
          refine CW.seq_k fun K14 hK14 => ?_
          refine CW.region ?_
          refine OW.q rfl rfl (yq_move rfl (by (conv => lhs; whnf) <;> rfl)) ?_
          refine OW.q rfl rfl (yq_move rfl (by (conv => lhs; whnf) <;> rfl)) ?_
          refine OW.calln rfl rfl rfl (by (conv => lhs; whnf) <;> rfl) (.cons (by (conv => lhs; whnf) <;> rfl) (.cons (by (conv => lhs; whnf) <;> rfl) .nil)) en42 (fun w hw => rpath_calls l _ z w (by omega) (hs.mono hw) hz1 hz2) ?_
          rintro _ _ ⟨_, rfl, a2, c2, rfl, rfl⟩
          refine OW.q rfl rfl (yq_move rfl (by (conv => lhs; whnf) <;> rfl)) ?_
          refine OW.q rfl rfl (yq_extract rfl (by (conv => lhs; whnf) <;> rfl) rfl) ?_
          refine OW.q rfl rfl (yq_extract rfl (by (conv => lhs; whnf) <;> rfl) rfl) ?_
          refine OW.q rfl rfl (yq_assign rfl (by (conv => lhs; whnf) <;> rfl)) ?_
          refine OW.q rfl rfl (yq_assign rfl (by (conv => lhs; whnf) <;> rfl)) ?_
          refine OW.nil ?_
          refine hK14 _ _ ?_
          refine CW.seq_k fun K15 hK15 => ?_
          refine CW.region ?_
          refine OW.q rfl rfl (yq_move rfl (by (conv => lhs; whnf) <;> rfl)) ?_
          refine OW.q rfl rfl (yq_move rfl (by (conv => lhs; whnf) <;> rfl)) ?_
          refine OW.q rfl rfl ((yq_call rfl rfl (.cons (by (conv => lhs; whnf) <;> rfl) (.cons (by (conv => lhs; whnf) <;> rfl) .nil)) en43 (fun w hw => same_calls (pathR l z) (pathR l z) _ _ w (Nat.le_trans (pathR_length l z) (by omega)) (HsAt.row rfl (hw.own _ (by repeat' first | exact List.mem_cons_self .. | apply List.mem_cons_of_mem))) (HsAt.row rfl (hw.own _ (by repeat' first | exact List.mem_cons_self .. | apply List.mem_cons_of_mem))))).to (v' := .bool true) (by rw [decide_eq_true rfl])) ?_
          refine OW.q rfl rfl (yq_not rfl (by (conv => lhs; whnf) <;> rfl)) ?_
          refine OW.q rfl rfl (yq_move rfl (by (conv => lhs; whnf) <;> rfl)) ?_
          refine OW.q rfl rfl (yq_move rfl (by (conv => lhs; whnf) <;> rfl)) ?_
          refine OW.q rfl rfl (yq_move rfl (by (conv => lhs; whnf) <;> rfl)) ?_
          refine OW.q rfl rfl ((yq_neq rfl (by (conv => lhs; whnf) <;> rfl) (by (conv => lhs; whnf) <;> rfl)).to (v' := .bool false) (by simp)) ?_
          refine OW.q rfl rfl (yq_pick rfl (by (conv => lhs; whnf) <;> rfl) (by (conv => lhs; whnf) <;> rfl)) ?_
          refine OW.nil ?_
          refine hK15 _ _ ?_
          refine CW.cond_f (by (conv => lhs; whnf) <;> rfl) ?_
          refine CW.skip ?_
          refine hK9 _ _ ?_
          refine CW.region ?_
          refine OW.drop (List.nil_sublist _) ?_
          refine OW.q rfl rfl (yq_move rfl (by (conv => lhs; whnf) <;> rfl)) ?_
          refine OW.q rfl rfl (yq_add_e (r := ((j + 1 : Nat) : Int) - 1) rfl (by (conv => lhs; whnf) <;> rfl) (by (conv => lhs; whnf) <;> rfl) (by rw [wrap64_in (by omega)]; omega)) ?_
          refine OW.q rfl rfl (yq_assign rfl (by (conv => lhs; whnf) <;> rfl)) ?_
          refine OW.nil ?_
          exact ⟨j + 1, ⟨Has.mk ⟨(by (conv => lhs; whnf) <;> rfl), (by (conv => lhs; whnf) <;> rfl), (by (conv => lhs; whnf) <;> rfl), trivial⟩, by omega, rfl⟩, by omega⟩
      · refine CW.exit ?_
        refine then_exit ?_
        refine then_exit ?_
        refine blockQ_hit ?_
        refine hK5 _ _ ?_
        refine CW.seq_k fun K16 hK16 => ?_
        refine CW.region ?_
        refine OW.q rfl rfl (yq_call rfl rfl .nil en40 (fun w hw => found_calls w (Cl_gl0 hw hg))) ?_
        refine OW.q rfl rfl (yq_assign rfl (by (conv => lhs; whnf) <;> rfl)) ?_
        refine OW.nil ?_
        refine hK16 _ _ ?_
        refine CW.ret ?_
        -- ret (ret)
        exact fin1 (Or.inr rfl) rfl ⟨by decide, (by (conv => lhs; whnf) <;> rfl)⟩ (fun w hw => ⟨rfl, hw.sub (List.nil_sublist _)⟩)

end Go.Proofs.YtahdekllphehkaaDoor
