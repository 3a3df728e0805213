/- The statements on heads: walks; no statement of the seat is proved here. -/
import Derived.Test.YtahdekllphehkaaDoorH5h
set_option linter.unusedVariables false
set_option linter.unusedSimpArgs false
namespace Go.Proofs.YtahdekllphehkaaDoor
open Go.WL Go.Spec
theorem headC_one (m : Int) (g : Hash) : ∀ u ∈ headC m g, u.oneCell' = true := by
  intro u hu
  unfold headC at hu
  rcases List.mem_cons.1 hu with rfl | hu
  · rfl
  · exact hc_one _ _ hu
theorem built46h (m : Int) (g : Hash) : Tryd.prog.built 46 [(0, .agg (headC m g).toArray)] = some (sgC ⟨m, g, 0, [], []⟩ (.slice none 0 0)).toArray := by
  have hd : (sgC Sg.none (.slice none 0 0)).drop 33 = sealC ⟨m, g, 0, [], []⟩ (.slice none 0 0) := by kernel_rfl
  rw [bt46, fill_app (vs := headC m g) (by rw [headC_length]; rfl) rfl (by simp [headC_length, sgC_length]), fill_end, headC_length, hd]
  rfl
theorem getS_nil : getS [] = none := by
  cases h : getS [] with
  | none => rfl
  | some s =>
    obtain ⟨h1, h2⟩ := getS_iff.1 h
    have := (headB_length h1).1
    rw [← h2] at this
    simp at this
theorem getS_head {s : Sg} (h : s.valid) : getS (headB s) = some s := getS_iff.2 ⟨h, rfl⟩
theorem getS_behind {s : Sg} (h : s.valid) (r : Bytes) (hr : r ≠ []) : getS (headB s ++ r) = none := by
  cases e : getS (headB s ++ r) with
  | none => rfl
  | some s' =>
    obtain ⟨h1, h2⟩ := getS_iff.1 e
    exact absurd (headB_pre h h1 h2) hr
theorem getS_cut {s : Sg} (h : s.valid) (k : Nat) (hk : k < (headB s).length) : getS ((headB s).take k) = none := by
  cases e : getS ((headB s).take k) with
  | none => rfl
  | some s' =>
    obtain ⟨h1, h2⟩ := getS_iff.1 e
    have h3 : headB s' ++ (headB s).drop k = headB s := by rw [← h2, List.take_append_drop]
    have h4 := congrArg List.length (headB_pre h1 h h3)
    rw [List.length_drop, List.length_nil] at h4
    omega
theorem zero_ne_one : zeroHash ≠ dOne := by
  intro h
  have h2 : hb zeroHash = hb dOne := by rw [h]
  unfold dOne at h2
  rw [hb_hashOf] at h2
  exact absurd h2 (by decide)
theorem nosig {s : Sg} (h : s.sig = []) : ¬ s.valid := fun v => by
  have := v.2.2.2.2.1
  rw [h] at this
  cases this
set_option maxRecDepth 100000 in
set_option maxHeartbeats 1000000 in
theorem headed_calls (w : World) (hg : GL w) : Calls Tryd.prog 63 #[] w fun e w' => e = .returned (.bool true) ∧ Cl w [] [] w' := by
  have ho1 : ordL (Sg.mk 3 zeroHash 0 [] []) (Sg.mk 4 zeroHash 0 [] []) = 0 := rfl
  have ho2 : ordL (Sg.mk 4 zeroHash 0 [] []) (Sg.mk 4 dOne 0 [] []) = 3 := by unfold ordL; rw [if_neg (by decide), if_neg (by decide), if_neg zero_ne_one]
  have ho3 : ordL (Sg.mk 4 zeroHash 0 [] []) (Sg.mk 4 zeroHash 0 [] []) = 1 := by unfold ordL; rw [if_neg (by decide), if_neg (by decide), if_pos rfl]
  have ho4 : ordL (Sg.mk 4 zeroHash 0 [] []) (Sg.mk 3 zeroHash 0 [] []) = 2 := rfl
  have hno : ¬ Sg.valid (Sg.mk 3 zeroHash 0 [] []) := nosig rfl
  have hck : headChk zeroHash (Sg.mk 3 zeroHash 0 [] []) = 2 := by unfold headChk; rw [if_neg hno]
  refine calls_of_CW (L := []) Tryd.func63 rfl (Nat.le_of_ble_eq_true rfl) (Cl.refl _) ?_
  refine CW.seq_k fun K1 hK1 => ?_
  refine CW.region ?_
  refine OW.q rfl rfl (yq_assign rfl (by (conv => lhs; whnf) <;> rfl)) ?_
  refine OW.nil ?_
  refine hK1 _ _ ?_
  refine CW.seq_k fun K2 hK2 => ?_
  refine CW.region ?_
  refine OW.q rfl rfl (yq_build (cs := headC 3 zeroHash) rfl rfl (by kernel_rfl)) ?_
  refine OW.q rfl rfl (yq_build (cs := headC 4 zeroHash) rfl rfl (by kernel_rfl)) ?_
  refine OW.alloc rfl rfl rfl tz33 (fun b1 => ?_)
  refine OW.alloc rfl rfl rfl tz33 (fun b2 => ?_)
  refine OW.store' rfl rfl rfl (by (conv => lhs; whnf) <;> rfl) (by (conv => lhs; whnf) <;> rfl) (vs := headC 3 zeroHash) (by rw [headC_length]; exact ti33) rfl (headC_one _ _) (by repeat' first | exact Put.head | apply Put.tail) (cs' := headC 3 zeroHash) (spl_eqlen (by first | (simp only [headC_length]; done) | (simp only [headC_length]; rfl))) (by simp only [headC_length]; exact Nat.le_of_ble_eq_true rfl) ?_
  refine OW.store' rfl rfl rfl (by (conv => lhs; whnf) <;> rfl) (by (conv => lhs; whnf) <;> rfl) (vs := headC 4 zeroHash) (by rw [headC_length]; exact ti33) rfl (headC_one _ _) (by repeat' first | exact Put.head | apply Put.tail) (cs' := headC 4 zeroHash) (spl_eqlen (by first | (simp only [headC_length]; done) | (simp only [headC_length]; rfl))) (by simp only [headC_length]; exact Nat.le_of_ble_eq_true rfl) ?_
  refine OW.nil ?_
  refine hK2 _ _ ?_
  refine CW.seq_k fun K3 hK3 => ?_
  refine CW.region ?_
  refine OW.q rfl rfl (yq_build (cs := hc dOne) rfl rfl (by unfold dOne; kernel_rfl)) ?_
  refine OW.q rfl rfl ((yq_build (cs := headC 4 dOne) rfl rfl (built33 _ _))) ?_
  refine OW.alloc rfl rfl rfl tz33 (fun b3 => ?_)
  refine OW.store' rfl rfl rfl (by (conv => lhs; whnf) <;> rfl) (by (conv => lhs; whnf) <;> rfl) (vs := headC 4 dOne) (by rw [headC_length]; exact ti33) rfl (headC_one _ _) (by repeat' first | exact Put.head | apply Put.tail) (cs' := headC 4 dOne) (spl_eqlen (by first | (simp only [headC_length]; done) | (simp only [headC_length]; rfl))) (by simp only [headC_length]; exact Nat.le_of_ble_eq_true rfl) ?_
  refine OW.nil ?_
  refine hK3 _ _ ?_
  refine CW.seq_k fun K4 hK4 => ?_
  refine CW.region ?_
  refine OW.q rfl rfl (yq_loadW (cs := headC 3 zeroHash) rfl (by (conv => lhs; whnf) <;> rfl) (by rw [headC_length]; exact ti33) (by repeat' first | exact List.mem_cons_self .. | apply List.mem_cons_of_mem)) ?_
  refine OW.q rfl rfl ((yq_build (cs := sgC (Sg.mk 3 zeroHash 0 [] []) (.slice none 0 0)) rfl rfl (built46h 3 zeroHash))) ?_
  refine OW.q rfl rfl (yq_call rfl rfl (.cons (by (conv => lhs; whnf) <;> rfl) .nil) en69 (fun w hw => by have := put2_calls (Sg.mk 3 zeroHash 0 [] []) (.slice none 0 0) w ⟨none, 0, rfl, Nat.le_refl _, .inl rfl⟩; rwa [putR_not hno, putE_not hno] at this)) ?_
  refine OW.q rfl rfl (yq_move rfl (by (conv => lhs; whnf) <;> rfl)) ?_
  refine OW.q rfl rfl (yq_extract rfl (by (conv => lhs; whnf) <;> rfl) rfl) ?_
  refine OW.q rfl rfl (yq_extract rfl (by (conv => lhs; whnf) <;> rfl) rfl) ?_
  refine OW.q rfl rfl (yq_assign rfl (by (conv => lhs; whnf) <;> rfl)) ?_
  refine OW.q rfl rfl (yq_assign rfl (by (conv => lhs; whnf) <;> rfl)) ?_
  refine OW.nil ?_
  refine hK4 _ _ ?_
  refine CW.seq_k fun K5 hK5 => ?_
  refine CW.region ?_
  refine OW.calln rfl rfl rfl (by (conv => lhs; whnf) <;> rfl) (.cons (by (conv => lhs; whnf) <;> rfl) .nil) en66 (fun w hw => get2_calls [] w (by decide)) ?_
  rw [(getR_none getS_nil).1, (getR_none getS_nil).2]
  rintro _ _ ⟨_, rfl, v6, rfl, a6, c6, rfl, rfl⟩
  refine OW.q rfl rfl (yq_move rfl (by (conv => lhs; whnf) <;> rfl)) ?_
  refine OW.q rfl rfl (yq_extract rfl (by (conv => lhs; whnf) <;> rfl) rfl) ?_
  refine OW.q rfl rfl (yq_extract rfl (by (conv => lhs; whnf) <;> rfl) rfl) ?_
  refine OW.alloc rfl rfl rfl tz46 (fun b6 => ?_)
  refine OW.store' rfl rfl rfl (by (conv => lhs; whnf) <;> rfl) (by (conv => lhs; whnf) <;> rfl) (vs := sgC Sg.none (rowV a6 0 c6)) (by rw [sgC_length]; exact ti46) rfl (sgC_one rfl) (by repeat' first | exact Put.head | apply Put.tail) (cs' := sgC Sg.none (rowV a6 0 c6)) (spl_eqlen (by first | (simp only [sgC_length]; done) | (simp only [sgC_length]; rfl))) (by simp only [sgC_length]; exact Nat.le_of_ble_eq_true rfl) ?_
  refine OW.q rfl rfl (yq_assign rfl (by (conv => lhs; whnf) <;> rfl)) ?_
  refine OW.nil ?_
  refine hK5 _ _ ?_
  refine CW.seq_k fun K6 hK6 => ?_
  refine CW.region ?_
  refine OW.q rfl rfl (yq_loadW (cs := headC 3 zeroHash) rfl (by (conv => lhs; whnf) <;> rfl) (by rw [headC_length]; exact ti33) (by repeat' first | exact List.mem_cons_self .. | apply List.mem_cons_of_mem)) ?_
  refine OW.q rfl rfl (yq_loadW (cs := headC 4 zeroHash) rfl (by (conv => lhs; whnf) <;> rfl) (by rw [headC_length]; exact ti33) (by repeat' first | exact List.mem_cons_self .. | apply List.mem_cons_of_mem)) ?_
  refine OW.q rfl rfl ((yq_call rfl rfl (.cons (by (conv => lhs; whnf) <;> rfl) (.cons (by (conv => lhs; whnf) <;> rfl) .nil)) en85 (fun w hw => order_calls (Sg.mk 3 zeroHash 0 [] []) (Sg.mk 4 zeroHash 0 [] []) w)).to (v' := .int .i64 0) (by rw [ho1])) ?_
  refine OW.q rfl rfl ((yq_eql rfl (by (conv => lhs; whnf) <;> rfl) (by (conv => lhs; whnf) <;> rfl)).to (v' := .bool true) (rfl)) ?_
  refine OW.q rfl rfl (yq_move rfl (by (conv => lhs; whnf) <;> rfl)) ?_
  refine OW.q rfl rfl (yq_loadW (cs := headC 4 zeroHash) rfl (by (conv => lhs; whnf) <;> rfl) (by rw [headC_length]; exact ti33) (by repeat' first | exact List.mem_cons_self .. | apply List.mem_cons_of_mem)) ?_
  refine OW.q rfl rfl (yq_loadW (cs := headC 4 dOne) rfl (by (conv => lhs; whnf) <;> rfl) (by rw [headC_length]; exact ti33) (by repeat' first | exact List.mem_cons_self .. | apply List.mem_cons_of_mem)) ?_
  refine OW.q rfl rfl ((yq_call rfl rfl (.cons (by (conv => lhs; whnf) <;> rfl) (.cons (by (conv => lhs; whnf) <;> rfl) .nil)) en85 (fun w hw => order_calls (Sg.mk 4 zeroHash 0 [] []) (Sg.mk 4 dOne 0 [] []) w)).to (v' := .int .i64 3) (by rw [ho2])) ?_
  refine OW.q rfl rfl ((yq_eql rfl (by (conv => lhs; whnf) <;> rfl) (by (conv => lhs; whnf) <;> rfl)).to (v' := .bool true) (rfl)) ?_
  refine OW.q rfl rfl (yq_pick rfl (by (conv => lhs; whnf) <;> rfl) (by (conv => lhs; whnf) <;> rfl)) ?_
  refine OW.q rfl rfl (yq_move rfl (by (conv => lhs; whnf) <;> rfl)) ?_
  refine OW.q rfl rfl (yq_loadW (cs := headC 4 zeroHash) rfl (by (conv => lhs; whnf) <;> rfl) (by rw [headC_length]; exact ti33) (by repeat' first | exact List.mem_cons_self .. | apply List.mem_cons_of_mem)) ?_
  refine OW.q rfl rfl (yq_loadW (cs := headC 4 zeroHash) rfl (by (conv => lhs; whnf) <;> rfl) (by rw [headC_length]; exact ti33) (by repeat' first | exact List.mem_cons_self .. | apply List.mem_cons_of_mem)) ?_
  refine OW.q rfl rfl ((yq_call rfl rfl (.cons (by (conv => lhs; whnf) <;> rfl) (.cons (by (conv => lhs; whnf) <;> rfl) .nil)) en85 (fun w hw => order_calls (Sg.mk 4 zeroHash 0 [] []) (Sg.mk 4 zeroHash 0 [] []) w)).to (v' := .int .i64 1) (by rw [ho3])) ?_
  refine OW.q rfl rfl ((yq_eql rfl (by (conv => lhs; whnf) <;> rfl) (by (conv => lhs; whnf) <;> rfl)).to (v' := .bool true) (rfl)) ?_
  refine OW.q rfl rfl (yq_pick rfl (by (conv => lhs; whnf) <;> rfl) (by (conv => lhs; whnf) <;> rfl)) ?_
  refine OW.q rfl rfl (yq_move rfl (by (conv => lhs; whnf) <;> rfl)) ?_
  refine OW.q rfl rfl (yq_loadW (cs := headC 4 zeroHash) rfl (by (conv => lhs; whnf) <;> rfl) (by rw [headC_length]; exact ti33) (by repeat' first | exact List.mem_cons_self .. | apply List.mem_cons_of_mem)) ?_
  refine OW.q rfl rfl (yq_loadW (cs := headC 3 zeroHash) rfl (by (conv => lhs; whnf) <;> rfl) (by rw [headC_length]; exact ti33) (by repeat' first | exact List.mem_cons_self .. | apply List.mem_cons_of_mem)) ?_
  refine OW.q rfl rfl ((yq_call rfl rfl (.cons (by (conv => lhs; whnf) <;> rfl) (.cons (by (conv => lhs; whnf) <;> rfl) .nil)) en85 (fun w hw => order_calls (Sg.mk 4 zeroHash 0 [] []) (Sg.mk 3 zeroHash 0 [] []) w)).to (v' := .int .i64 2) (by rw [ho4])) ?_
  refine OW.q rfl rfl ((yq_eql rfl (by (conv => lhs; whnf) <;> rfl) (by (conv => lhs; whnf) <;> rfl)).to (v' := .bool true) (rfl)) ?_
  refine OW.q rfl rfl (yq_pick rfl (by (conv => lhs; whnf) <;> rfl) (by (conv => lhs; whnf) <;> rfl)) ?_
  refine OW.q rfl rfl (yq_move rfl (by (conv => lhs; whnf) <;> rfl)) ?_
  refine OW.q rfl rfl (yq_move rfl (by (conv => lhs; whnf) <;> rfl)) ?_
  refine OW.q rfl rfl ((yq_eql rfl (by (conv => lhs; whnf) <;> rfl) (by (conv => lhs; whnf) <;> rfl)).to (v' := .bool true) (rfl)) ?_
  refine OW.q rfl rfl (yq_pick rfl (by (conv => lhs; whnf) <;> rfl) (by (conv => lhs; whnf) <;> rfl)) ?_
  refine OW.q rfl rfl (yq_move rfl (by (conv => lhs; whnf) <;> rfl)) ?_
  refine OW.q rfl rfl (yq_build (parts := []) (pv := []) (cs := hc zeroHash) rfl rfl (by kernel_rfl)) ?_
  refine OW.q rfl rfl (yq_loadW (cs := headC 3 zeroHash) rfl (by (conv => lhs; whnf) <;> rfl) (by rw [headC_length]; exact ti33) (by repeat' first | exact List.mem_cons_self .. | apply List.mem_cons_of_mem)) ?_
  refine OW.q rfl rfl ((yq_build (cs := sgC (Sg.mk 3 zeroHash 0 [] []) (.slice none 0 0)) rfl rfl (built46h 3 zeroHash))) ?_
  refine OW.q rfl rfl ((yq_call rfl rfl (.cons (by (conv => lhs; whnf) <;> rfl) (.cons (by (conv => lhs; whnf) <;> rfl) .nil)) en83 (fun w hw => check2_calls zeroHash (Sg.mk 3 zeroHash 0 [] []) (.slice none 0 0) w (by decide) (by decide) ⟨none, 0, rfl, Nat.le_refl _, .inl rfl⟩ (Cl_gl0 hw hg))).to (v' := .int .i64 2) (by rw [hck])) ?_
  refine OW.q rfl rfl ((yq_eql rfl (by (conv => lhs; whnf) <;> rfl) (by (conv => lhs; whnf) <;> rfl)).to (v' := .bool true) (rfl)) ?_
  refine OW.q rfl rfl (yq_pick rfl (by (conv => lhs; whnf) <;> rfl) (by (conv => lhs; whnf) <;> rfl)) ?_
  refine OW.q rfl rfl (yq_move rfl (by (conv => lhs; whnf) <;> rfl)) ?_
  refine OW.q rfl rfl (yq_move rfl (by (conv => lhs; whnf) <;> rfl)) ?_
  refine OW.q rfl rfl ((yq_eql rfl (by (conv => lhs; whnf) <;> rfl) (by (conv => lhs; whnf) <;> rfl)).to (v' := .bool true) (rfl)) ?_
  refine OW.q rfl rfl (yq_pick rfl (by (conv => lhs; whnf) <;> rfl) (by (conv => lhs; whnf) <;> rfl)) ?_
  refine OW.q rfl rfl (yq_assign rfl (by (conv => lhs; whnf) <;> rfl)) ?_
  refine OW.nil ?_
  refine hK6 _ _ ?_
  refine CW.ret ?_
  -- ret (ret)
  exact fin1 (Or.inr rfl) rfl ⟨by decide, (by (conv => lhs; whnf) <;> rfl)⟩ (fun w hw => ⟨rfl, hw.sub (List.nil_sublist _)⟩)
set_option maxRecDepth 100000 in
set_option maxHeartbeats 1000000 in
theorem headsTell_calls (x y : Rg) (vx vy : Value) (key : Hash) (w : World) (hox : x.ok) (hoy : y.ok) (hx : HsAt w vx x.path) (hy : HsAt w vy y.path) (hg : GL w) :
    Calls Tryd.prog 19 #[RgV x vx, RgV y vy, HV key] w fun e w' => e = .returned (.bool true) ∧ Cl w [] [] w' := by
  have hx0 := hx
  obtain ⟨ax, cx, rfl⟩ := hx0.len
  have hy0 := hy
  obtain ⟨ay, cy, rfl⟩ := hy0.len
  have hxs := Rg.sig_le hox
  have hys := Rg.sig_le hoy
  refine calls_of_CW (L := []) Tryd.func19 rfl (Nat.le_of_ble_eq_true rfl) (Cl.refl _) ?_
  refine CW.seq_k fun K1 hK1 => ?_
  refine CW.region ?_
  refine OW.box (cs := rgC x (.slice ax x.path.length cx)) rfl rfl rfl (by (conv => lhs; whnf) <;> rfl) rfl (fun b3 => ?_)
  refine OW.box (cs := rgC y (.slice ay y.path.length cy)) rfl rfl rfl (by (conv => lhs; whnf) <;> rfl) rfl (fun b4 => ?_)
  refine OW.box (cs := hc key) rfl rfl rfl (by (conv => lhs; whnf) <;> rfl) rfl (fun b5 => ?_)
  refine OW.q rfl rfl (yq_assign rfl (by (conv => lhs; whnf) <;> rfl)) ?_
  refine OW.nil ?_
  refine hK1 _ _ ?_
  refine CW.seq_k fun K2 hK2 => ?_
  refine CW.seq_k fun K3 hK3 => ?_
  refine CW.region ?_
  refine OW.q rfl rfl (yq_loadW (cs := rgC x (.slice ax x.path.length cx)) rfl (by (conv => lhs; whnf) <;> rfl) (by rw [rgC_length]; exact ti36) (by repeat' first | exact List.mem_cons_self .. | apply List.mem_cons_of_mem)) ?_
  refine OW.qb rfl rfl (yq_call rfl rfl (.cons (by (conv => lhs; whnf) <;> rfl) .nil) en62 (fun w hw => great_calls x _ w (hx.mono hw))) (fun b14 hb14 => ?_)
  refine OW.q rfl rfl (yq_move rfl (by (conv => lhs; whnf) <;> rfl)) ?_
  apply OW.segOr 3 [16, 17] 18 hb14
  · intro hb14e
    refine QW.q (by subst hb14e; rfl) rfl (yq_loadW (cs := rgC y (.slice ay y.path.length cy)) rfl (by (conv => lhs; whnf) <;> rfl) (by rw [rgC_length]; exact ti36) (by repeat' first | exact List.mem_cons_self .. | apply List.mem_cons_of_mem)) ?_
    refine QW.qb (by subst hb14e; rfl) rfl (yq_call rfl rfl (.cons (by (conv => lhs; whnf) <;> rfl) .nil) en62 (fun w hw => great_calls y _ w (hy.mono hw))) (fun b17 hb17 => ?_)
    refine QW.q rfl rfl (yq_pick rfl (by (conv => lhs; whnf) <;> rfl) (by subst hb14e; ((conv => lhs; whnf) <;> rfl))) ?_
    exact QW.nil (SegM.mk (any_c (any_c any_n)) (or_run hb14 hb14e hb17))
  · intro hb14e
    refine QW.skip (by subst hb14e; rfl) rfl ?_
    refine QW.skip (by subst hb14e; rfl) rfl ?_
    refine QW.q rfl rfl (yq_pick rfl (by (conv => lhs; whnf) <;> rfl) (by subst hb14e; ((conv => lhs; whnf) <;> rfl))) ?_
    exact QW.nil (SegM.mk (any_c (any_c any_n)) (or_skip hb14 hb14e))
  · intro ρ18 b18 hA hb18
    obtain ⟨x16, x17, rfl⟩ := hA
    refine OW.nil ?_
    refine hK3 _ _ ?_
    refine CW.condq (by (conv => lhs; whnf) <;> rfl) hb18 (fun hc0 => ?_) (fun hc0 => ?_)
    · refine CW.seq_k fun K4 hK4 => ?_
      refine CW.region ?_
      refine OW.q rfl rfl (yq_call rfl rfl .nil en63 (fun w hw => headed_calls w (Cl_gl0 hw hg))) ?_
      refine OW.q rfl rfl (yq_assign rfl (by (conv => lhs; whnf) <;> rfl)) ?_
      refine OW.nil ?_
      refine hK4 _ _ ?_
      refine CW.ret ?_
      refine then_ret ?_
      -- ret (ret)
      exact fin1 (Or.inr rfl) rfl ⟨by decide, (by (conv => lhs; whnf) <;> rfl)⟩ (fun w hw => ⟨rfl, hw.sub (List.nil_sublist _)⟩)
    · have hg1 : ¬ x.great := fun h => hc0 (.inl h)
      have hg2 : ¬ y.great := fun h => hc0 (.inr h)
      unfold Rg.great at hg1 hg2
      clear hc0
      have hpx : x.sg.path.length ≤ 4294967296 := by show x.path.length ≤ _; omega
      have hpy : y.sg.path.length ≤ 4294967296 := by show y.path.length ≤ _; omega
      refine CW.skip ?_
      refine hK2 _ _ ?_
      refine CW.cutR (fun ρ L => ∃ b7 b8, Has ρ [(3, .pointer (some ⟨b3, 0, none⟩)), (4, .pointer (some ⟨b4, 0, none⟩)), (5, .pointer (some ⟨b5, 0, none⟩)), (7, .pointer (some ⟨b7, 0, none⟩)), (8, .pointer (some ⟨b8, 0, none⟩))] ∧ L.Perm [.blk b7 (sgC x.sg (.slice ax x.path.length cx)) 46 (0, 0), .blk b8 (sgC y.sg (.slice ay y.path.length cy)) 46 (0, 0), .blk b5 (hc key) 25 (0, 0), .blk b4 (rgC y (.slice ay y.path.length cy)) 36 (0, 0), .blk b3 (rgC x (.slice ax x.path.length cx)) 36 (0, 0)]) ?_ ?_
      · refine CW.held ([.blk b5 (hc key) 25 (0, 0), .blk b4 (rgC y (.slice ay y.path.length cy)) 36 (0, 0), .blk b3 (rgC x (.slice ax x.path.length cx)) 36 (0, 0)]) mixed ?_
        refine HW.take 0 rfl (by kernel_rfl) (by kernel_rfl) (by kernel_rfl) rfl rfl (by repeat' first | exact List.Sublist.refl _ | exact List.nil_sublist _ | apply List.Sublist.cons_cons | apply List.Sublist.cons) (yv_of_yq rfl (yq_loadW (cs := rgC x (.slice ax x.path.length cx)) rfl (by (conv => lhs; whnf) <;> rfl) (by rw [rgC_length]; exact ti36) (by repeat' first | exact List.mem_cons_self .. | apply List.mem_cons_of_mem))) ?_
        refine HW.take 2 rfl (by kernel_rfl) (by kernel_rfl) (by kernel_rfl) rfl rfl (by repeat' first | exact List.Sublist.refl _ | exact List.nil_sublist _ | apply List.Sublist.cons_cons | apply List.Sublist.cons) (yv_of_yq rfl (yq_loadW (cs := rgC y (.slice ay y.path.length cy)) rfl (by (conv => lhs; whnf) <;> rfl) (by rw [rgC_length]; exact ti36) (by repeat' first | exact List.mem_cons_self .. | apply List.mem_cons_of_mem))) ?_
        refine HW.three 1 4 5 (by kernel_rfl) rfl rfl rfl ?_ ?_ ?_
        · refine OW.q rfl rfl (yq_call rfl rfl (.cons (by (conv => lhs; whnf) <;> rfl) .nil) en65 (fun w hw => signed_calls x _ w hox (by omega) (hx.mono hw))) ?_
          refine OW.nil ⟨rfl, (by repeat' first | exact List.Sublist.refl _ | exact List.nil_sublist _ | apply List.Sublist.cons_cons | apply List.Sublist.cons), ?_⟩
          refine HW.three 3 4 5 (by kernel_rfl) rfl rfl rfl ?_ ?_ ?_
          · refine OW.q rfl rfl (yq_call rfl rfl (.cons (by (conv => lhs; whnf) <;> rfl) .nil) en65 (fun w hw => signed_calls y _ w hoy (by omega) (hy.mono hw))) ?_
            refine OW.nil ⟨rfl, (by repeat' first | exact List.Sublist.refl _ | exact List.nil_sublist _ | apply List.Sublist.cons_cons | apply List.Sublist.cons), ?_⟩
            refine HW.two 4 5 (by kernel_rfl) rfl rfl ?_ ?_
            · refine OW.alloc rfl rfl rfl tz46 (fun b7 => ?_)
              refine OW.nil ⟨rfl, (by repeat' first | exact List.Sublist.refl _ | exact List.nil_sublist _ | apply List.Sublist.cons_cons | apply List.Sublist.cons), ?_⟩
              refine HW.one 5 (by kernel_rfl) rfl ?_
              refine OW.alloc rfl rfl rfl tz46 (fun b8 => ?_)
              refine OW.nil ⟨rfl, (by repeat' first | exact List.Sublist.refl _ | exact List.nil_sublist _ | apply List.Sublist.cons_cons | apply List.Sublist.cons), ?_⟩
              refine HW.one 6 (by kernel_rfl) rfl ?_
              refine OW.store' rfl rfl rfl (by (conv => lhs; whnf) <;> rfl) (by (conv => lhs; whnf) <;> rfl) (vs := sgC x.sg (.slice ax x.path.length cx)) (by rw [sgC_length]; exact ti46) rfl (sgC_one rfl) (by repeat' first | exact Put.head | apply Put.tail) (cs' := sgC x.sg (.slice ax x.path.length cx)) (spl_eqlen (by first | (simp only [sgC_length]; done) | (simp only [sgC_length]; rfl))) (by simp only [sgC_length]; exact Nat.le_of_ble_eq_true rfl) ?_
              refine OW.nil ⟨rfl, (by repeat' first | exact List.Sublist.refl _ | exact List.nil_sublist _ | apply List.Sublist.cons_cons | apply List.Sublist.cons), ?_⟩
              refine HW.one 7 (by kernel_rfl) rfl ?_
              refine OW.store' rfl rfl rfl (by (conv => lhs; whnf) <;> rfl) (by (conv => lhs; whnf) <;> rfl) (vs := sgC y.sg (.slice ay y.path.length cy)) (by rw [sgC_length]; exact ti46) rfl (sgC_one rfl) (by repeat' first | exact Put.head | apply Put.tail) (cs' := sgC y.sg (.slice ay y.path.length cy)) (spl_eqlen (by first | (simp only [sgC_length]; done) | (simp only [sgC_length]; rfl))) (by simp only [sgC_length]; exact Nat.le_of_ble_eq_true rfl) ?_
              refine OW.nil ⟨rfl, (by repeat' first | exact List.Sublist.refl _ | exact List.nil_sublist _ | apply List.Sublist.cons_cons | apply List.Sublist.cons), ?_⟩
              refine HW.done (by kernel_rfl) ?_
              exact ⟨rfl, b7, b8, Has.mk ⟨(by (conv => lhs; whnf) <;> rfl), (by (conv => lhs; whnf) <;> rfl), (by (conv => lhs; whnf) <;> rfl), (by (conv => lhs; whnf) <;> rfl), (by (conv => lhs; whnf) <;> rfl), trivial⟩, by first | exact List.Perm.refl _ | exact .swap _ _ _⟩
            · refine OW.alloc rfl rfl rfl tz46 (fun b8 => ?_)
              refine OW.nil ⟨rfl, (by repeat' first | exact List.Sublist.refl _ | exact List.nil_sublist _ | apply List.Sublist.cons_cons | apply List.Sublist.cons), ?_⟩
              refine HW.one 4 (by kernel_rfl) rfl ?_
              refine OW.alloc rfl rfl rfl tz46 (fun b7 => ?_)
              refine OW.nil ⟨rfl, (by repeat' first | exact List.Sublist.refl _ | exact List.nil_sublist _ | apply List.Sublist.cons_cons | apply List.Sublist.cons), ?_⟩
              refine HW.one 6 (by kernel_rfl) rfl ?_
              refine OW.store' rfl rfl rfl (by (conv => lhs; whnf) <;> rfl) (by (conv => lhs; whnf) <;> rfl) (vs := sgC x.sg (.slice ax x.path.length cx)) (by rw [sgC_length]; exact ti46) rfl (sgC_one rfl) (by repeat' first | exact Put.head | apply Put.tail) (cs' := sgC x.sg (.slice ax x.path.length cx)) (spl_eqlen (by first | (simp only [sgC_length]; done) | (simp only [sgC_length]; rfl))) (by simp only [sgC_length]; exact Nat.le_of_ble_eq_true rfl) ?_
              refine OW.nil ⟨rfl, (by repeat' first | exact List.Sublist.refl _ | exact List.nil_sublist _ | apply List.Sublist.cons_cons | apply List.Sublist.cons), ?_⟩
              refine HW.one 7 (by kernel_rfl) rfl ?_
              refine OW.store' rfl rfl rfl (by (conv => lhs; whnf) <;> rfl) (by (conv => lhs; whnf) <;> rfl) (vs := sgC y.sg (.slice ay y.path.length cy)) (by rw [sgC_length]; exact ti46) rfl (sgC_one rfl) (by repeat' first | exact Put.head | apply Put.tail) (cs' := sgC y.sg (.slice ay y.path.length cy)) (spl_eqlen (by first | (simp only [sgC_length]; done) | (simp only [sgC_length]; rfl))) (by simp only [sgC_length]; exact Nat.le_of_ble_eq_true rfl) ?_
              refine OW.nil ⟨rfl, (by repeat' first | exact List.Sublist.refl _ | exact List.nil_sublist _ | apply List.Sublist.cons_cons | apply List.Sublist.cons), ?_⟩
              refine HW.done (by kernel_rfl) ?_
              exact ⟨rfl, b7, b8, Has.mk ⟨(by (conv => lhs; whnf) <;> rfl), (by (conv => lhs; whnf) <;> rfl), (by (conv => lhs; whnf) <;> rfl), (by (conv => lhs; whnf) <;> rfl), (by (conv => lhs; whnf) <;> rfl), trivial⟩, by first | exact List.Perm.refl _ | exact .swap _ _ _⟩
          · refine OW.alloc rfl rfl rfl tz46 (fun b7 => ?_)
            refine OW.nil ⟨rfl, (by repeat' first | exact List.Sublist.refl _ | exact List.nil_sublist _ | apply List.Sublist.cons_cons | apply List.Sublist.cons), ?_⟩
            refine HW.two 3 5 (by kernel_rfl) rfl rfl ?_ ?_
            · refine OW.q rfl rfl (yq_call rfl rfl (.cons (by (conv => lhs; whnf) <;> rfl) .nil) en65 (fun w hw => signed_calls y _ w hoy (by omega) (hy.mono hw))) ?_
              refine OW.nil ⟨rfl, (by repeat' first | exact List.Sublist.refl _ | exact List.nil_sublist _ | apply List.Sublist.cons_cons | apply List.Sublist.cons), ?_⟩
              refine HW.one 5 (by kernel_rfl) rfl ?_
              refine OW.alloc rfl rfl rfl tz46 (fun b8 => ?_)
              refine OW.nil ⟨rfl, (by repeat' first | exact List.Sublist.refl _ | exact List.nil_sublist _ | apply List.Sublist.cons_cons | apply List.Sublist.cons), ?_⟩
              refine HW.one 6 (by kernel_rfl) rfl ?_
              refine OW.store' rfl rfl rfl (by (conv => lhs; whnf) <;> rfl) (by (conv => lhs; whnf) <;> rfl) (vs := sgC x.sg (.slice ax x.path.length cx)) (by rw [sgC_length]; exact ti46) rfl (sgC_one rfl) (by repeat' first | exact Put.head | apply Put.tail) (cs' := sgC x.sg (.slice ax x.path.length cx)) (spl_eqlen (by first | (simp only [sgC_length]; done) | (simp only [sgC_length]; rfl))) (by simp only [sgC_length]; exact Nat.le_of_ble_eq_true rfl) ?_
              refine OW.nil ⟨rfl, (by repeat' first | exact List.Sublist.refl _ | exact List.nil_sublist _ | apply List.Sublist.cons_cons | apply List.Sublist.cons), ?_⟩
              refine HW.one 7 (by kernel_rfl) rfl ?_
              refine OW.store' rfl rfl rfl (by (conv => lhs; whnf) <;> rfl) (by (conv => lhs; whnf) <;> rfl) (vs := sgC y.sg (.slice ay y.path.length cy)) (by rw [sgC_length]; exact ti46) rfl (sgC_one rfl) (by repeat' first | exact Put.head | apply Put.tail) (cs' := sgC y.sg (.slice ay y.path.length cy)) (spl_eqlen (by first | (simp only [sgC_length]; done) | (simp only [sgC_length]; rfl))) (by simp only [sgC_length]; exact Nat.le_of_ble_eq_true rfl) ?_
              refine OW.nil ⟨rfl, (by repeat' first | exact List.Sublist.refl _ | exact List.nil_sublist _ | apply List.Sublist.cons_cons | apply List.Sublist.cons), ?_⟩
              refine HW.done (by kernel_rfl) ?_
              exact ⟨rfl, b7, b8, Has.mk ⟨(by (conv => lhs; whnf) <;> rfl), (by (conv => lhs; whnf) <;> rfl), (by (conv => lhs; whnf) <;> rfl), (by (conv => lhs; whnf) <;> rfl), (by (conv => lhs; whnf) <;> rfl), trivial⟩, by first | exact List.Perm.refl _ | exact .swap _ _ _⟩
            · refine OW.alloc rfl rfl rfl tz46 (fun b8 => ?_)
              refine OW.nil ⟨rfl, (by repeat' first | exact List.Sublist.refl _ | exact List.nil_sublist _ | apply List.Sublist.cons_cons | apply List.Sublist.cons), ?_⟩
              refine HW.one 3 (by kernel_rfl) rfl ?_
              refine OW.q rfl rfl (yq_call rfl rfl (.cons (by (conv => lhs; whnf) <;> rfl) .nil) en65 (fun w hw => signed_calls y _ w hoy (by omega) (hy.mono hw))) ?_
              refine OW.nil ⟨rfl, (by repeat' first | exact List.Sublist.refl _ | exact List.nil_sublist _ | apply List.Sublist.cons_cons | apply List.Sublist.cons), ?_⟩
              refine HW.one 6 (by kernel_rfl) rfl ?_
              refine OW.store' rfl rfl rfl (by (conv => lhs; whnf) <;> rfl) (by (conv => lhs; whnf) <;> rfl) (vs := sgC x.sg (.slice ax x.path.length cx)) (by rw [sgC_length]; exact ti46) rfl (sgC_one rfl) (by repeat' first | exact Put.head | apply Put.tail) (cs' := sgC x.sg (.slice ax x.path.length cx)) (spl_eqlen (by first | (simp only [sgC_length]; done) | (simp only [sgC_length]; rfl))) (by simp only [sgC_length]; exact Nat.le_of_ble_eq_true rfl) ?_
              refine OW.nil ⟨rfl, (by repeat' first | exact List.Sublist.refl _ | exact List.nil_sublist _ | apply List.Sublist.cons_cons | apply List.Sublist.cons), ?_⟩
              refine HW.one 7 (by kernel_rfl) rfl ?_
              refine OW.store' rfl rfl rfl (by (conv => lhs; whnf) <;> rfl) (by (conv => lhs; whnf) <;> rfl) (vs := sgC y.sg (.slice ay y.path.length cy)) (by rw [sgC_length]; exact ti46) rfl (sgC_one rfl) (by repeat' first | exact Put.head | apply Put.tail) (cs' := sgC y.sg (.slice ay y.path.length cy)) (spl_eqlen (by first | (simp only [sgC_length]; done) | (simp only [sgC_length]; rfl))) (by simp only [sgC_length]; exact Nat.le_of_ble_eq_true rfl) ?_
              refine OW.nil ⟨rfl, (by repeat' first | exact List.Sublist.refl _ | exact List.nil_sublist _ | apply List.Sublist.cons_cons | apply List.Sublist.cons), ?_⟩
              refine HW.done (by kernel_rfl) ?_
              exact ⟨rfl, b7, b8, Has.mk ⟨(by (conv => lhs; whnf) <;> rfl), (by (conv => lhs; whnf) <;> rfl), (by (conv => lhs; whnf) <;> rfl), (by (conv => lhs; whnf) <;> rfl), (by (conv => lhs; whnf) <;> rfl), trivial⟩, by first | exact List.Perm.refl _ | exact .swap _ _ _⟩
          · refine OW.alloc rfl rfl rfl tz46 (fun b8 => ?_)
            refine OW.nil ⟨rfl, (by repeat' first | exact List.Sublist.refl _ | exact List.nil_sublist _ | apply List.Sublist.cons_cons | apply List.Sublist.cons), ?_⟩
            refine HW.two 3 4 (by kernel_rfl) rfl rfl ?_ ?_
            · refine OW.q rfl rfl (yq_call rfl rfl (.cons (by (conv => lhs; whnf) <;> rfl) .nil) en65 (fun w hw => signed_calls y _ w hoy (by omega) (hy.mono hw))) ?_
              refine OW.nil ⟨rfl, (by repeat' first | exact List.Sublist.refl _ | exact List.nil_sublist _ | apply List.Sublist.cons_cons | apply List.Sublist.cons), ?_⟩
              refine HW.one 4 (by kernel_rfl) rfl ?_
              refine OW.alloc rfl rfl rfl tz46 (fun b7 => ?_)
              refine OW.nil ⟨rfl, (by repeat' first | exact List.Sublist.refl _ | exact List.nil_sublist _ | apply List.Sublist.cons_cons | apply List.Sublist.cons), ?_⟩
              refine HW.one 6 (by kernel_rfl) rfl ?_
              refine OW.store' rfl rfl rfl (by (conv => lhs; whnf) <;> rfl) (by (conv => lhs; whnf) <;> rfl) (vs := sgC x.sg (.slice ax x.path.length cx)) (by rw [sgC_length]; exact ti46) rfl (sgC_one rfl) (by repeat' first | exact Put.head | apply Put.tail) (cs' := sgC x.sg (.slice ax x.path.length cx)) (spl_eqlen (by first | (simp only [sgC_length]; done) | (simp only [sgC_length]; rfl))) (by simp only [sgC_length]; exact Nat.le_of_ble_eq_true rfl) ?_
              refine OW.nil ⟨rfl, (by repeat' first | exact List.Sublist.refl _ | exact List.nil_sublist _ | apply List.Sublist.cons_cons | apply List.Sublist.cons), ?_⟩
              refine HW.one 7 (by kernel_rfl) rfl ?_
              refine OW.store' rfl rfl rfl (by (conv => lhs; whnf) <;> rfl) (by (conv => lhs; whnf) <;> rfl) (vs := sgC y.sg (.slice ay y.path.length cy)) (by rw [sgC_length]; exact ti46) rfl (sgC_one rfl) (by repeat' first | exact Put.head | apply Put.tail) (cs' := sgC y.sg (.slice ay y.path.length cy)) (spl_eqlen (by first | (simp only [sgC_length]; done) | (simp only [sgC_length]; rfl))) (by simp only [sgC_length]; exact Nat.le_of_ble_eq_true rfl) ?_
              refine OW.nil ⟨rfl, (by repeat' first | exact List.Sublist.refl _ | exact List.nil_sublist _ | apply List.Sublist.cons_cons | apply List.Sublist.cons), ?_⟩
              refine HW.done (by kernel_rfl) ?_
              exact ⟨rfl, b7, b8, Has.mk ⟨(by (conv => lhs; whnf) <;> rfl), (by (conv => lhs; whnf) <;> rfl), (by (conv => lhs; whnf) <;> rfl), (by (conv => lhs; whnf) <;> rfl), (by (conv => lhs; whnf) <;> rfl), trivial⟩, by first | exact List.Perm.refl _ | exact .swap _ _ _⟩
            · refine OW.alloc rfl rfl rfl tz46 (fun b7 => ?_)
              refine OW.nil ⟨rfl, (by repeat' first | exact List.Sublist.refl _ | exact List.nil_sublist _ | apply List.Sublist.cons_cons | apply List.Sublist.cons), ?_⟩
              refine HW.one 3 (by kernel_rfl) rfl ?_
              refine OW.q rfl rfl (yq_call rfl rfl (.cons (by (conv => lhs; whnf) <;> rfl) .nil) en65 (fun w hw => signed_calls y _ w hoy (by omega) (hy.mono hw))) ?_
              refine OW.nil ⟨rfl, (by repeat' first | exact List.Sublist.refl _ | exact List.nil_sublist _ | apply List.Sublist.cons_cons | apply List.Sublist.cons), ?_⟩
              refine HW.one 6 (by kernel_rfl) rfl ?_
              refine OW.store' rfl rfl rfl (by (conv => lhs; whnf) <;> rfl) (by (conv => lhs; whnf) <;> rfl) (vs := sgC x.sg (.slice ax x.path.length cx)) (by rw [sgC_length]; exact ti46) rfl (sgC_one rfl) (by repeat' first | exact Put.head | apply Put.tail) (cs' := sgC x.sg (.slice ax x.path.length cx)) (spl_eqlen (by first | (simp only [sgC_length]; done) | (simp only [sgC_length]; rfl))) (by simp only [sgC_length]; exact Nat.le_of_ble_eq_true rfl) ?_
              refine OW.nil ⟨rfl, (by repeat' first | exact List.Sublist.refl _ | exact List.nil_sublist _ | apply List.Sublist.cons_cons | apply List.Sublist.cons), ?_⟩
              refine HW.one 7 (by kernel_rfl) rfl ?_
              refine OW.store' rfl rfl rfl (by (conv => lhs; whnf) <;> rfl) (by (conv => lhs; whnf) <;> rfl) (vs := sgC y.sg (.slice ay y.path.length cy)) (by rw [sgC_length]; exact ti46) rfl (sgC_one rfl) (by repeat' first | exact Put.head | apply Put.tail) (cs' := sgC y.sg (.slice ay y.path.length cy)) (spl_eqlen (by first | (simp only [sgC_length]; done) | (simp only [sgC_length]; rfl))) (by simp only [sgC_length]; exact Nat.le_of_ble_eq_true rfl) ?_
              refine OW.nil ⟨rfl, (by repeat' first | exact List.Sublist.refl _ | exact List.nil_sublist _ | apply List.Sublist.cons_cons | apply List.Sublist.cons), ?_⟩
              refine HW.done (by kernel_rfl) ?_
              exact ⟨rfl, b7, b8, Has.mk ⟨(by (conv => lhs; whnf) <;> rfl), (by (conv => lhs; whnf) <;> rfl), (by (conv => lhs; whnf) <;> rfl), (by (conv => lhs; whnf) <;> rfl), (by (conv => lhs; whnf) <;> rfl), trivial⟩, by first | exact List.Perm.refl _ | exact .swap _ _ _⟩
        · refine OW.alloc rfl rfl rfl tz46 (fun b7 => ?_)
          refine OW.nil ⟨rfl, (by repeat' first | exact List.Sublist.refl _ | exact List.nil_sublist _ | apply List.Sublist.cons_cons | apply List.Sublist.cons), ?_⟩
          refine HW.two 1 5 (by kernel_rfl) rfl rfl ?_ ?_
          · refine OW.q rfl rfl (yq_call rfl rfl (.cons (by (conv => lhs; whnf) <;> rfl) .nil) en65 (fun w hw => signed_calls x _ w hox (by omega) (hx.mono hw))) ?_
            refine OW.nil ⟨rfl, (by repeat' first | exact List.Sublist.refl _ | exact List.nil_sublist _ | apply List.Sublist.cons_cons | apply List.Sublist.cons), ?_⟩
            refine HW.two 3 5 (by kernel_rfl) rfl rfl ?_ ?_
            · refine OW.q rfl rfl (yq_call rfl rfl (.cons (by (conv => lhs; whnf) <;> rfl) .nil) en65 (fun w hw => signed_calls y _ w hoy (by omega) (hy.mono hw))) ?_
              refine OW.nil ⟨rfl, (by repeat' first | exact List.Sublist.refl _ | exact List.nil_sublist _ | apply List.Sublist.cons_cons | apply List.Sublist.cons), ?_⟩
              refine HW.one 5 (by kernel_rfl) rfl ?_
              refine OW.alloc rfl rfl rfl tz46 (fun b8 => ?_)
              refine OW.nil ⟨rfl, (by repeat' first | exact List.Sublist.refl _ | exact List.nil_sublist _ | apply List.Sublist.cons_cons | apply List.Sublist.cons), ?_⟩
              refine HW.one 6 (by kernel_rfl) rfl ?_
              refine OW.store' rfl rfl rfl (by (conv => lhs; whnf) <;> rfl) (by (conv => lhs; whnf) <;> rfl) (vs := sgC x.sg (.slice ax x.path.length cx)) (by rw [sgC_length]; exact ti46) rfl (sgC_one rfl) (by repeat' first | exact Put.head | apply Put.tail) (cs' := sgC x.sg (.slice ax x.path.length cx)) (spl_eqlen (by first | (simp only [sgC_length]; done) | (simp only [sgC_length]; rfl))) (by simp only [sgC_length]; exact Nat.le_of_ble_eq_true rfl) ?_
              refine OW.nil ⟨rfl, (by repeat' first | exact List.Sublist.refl _ | exact List.nil_sublist _ | apply List.Sublist.cons_cons | apply List.Sublist.cons), ?_⟩
              refine HW.one 7 (by kernel_rfl) rfl ?_
              refine OW.store' rfl rfl rfl (by (conv => lhs; whnf) <;> rfl) (by (conv => lhs; whnf) <;> rfl) (vs := sgC y.sg (.slice ay y.path.length cy)) (by rw [sgC_length]; exact ti46) rfl (sgC_one rfl) (by repeat' first | exact Put.head | apply Put.tail) (cs' := sgC y.sg (.slice ay y.path.length cy)) (spl_eqlen (by first | (simp only [sgC_length]; done) | (simp only [sgC_length]; rfl))) (by simp only [sgC_length]; exact Nat.le_of_ble_eq_true rfl) ?_
              refine OW.nil ⟨rfl, (by repeat' first | exact List.Sublist.refl _ | exact List.nil_sublist _ | apply List.Sublist.cons_cons | apply List.Sublist.cons), ?_⟩
              refine HW.done (by kernel_rfl) ?_
              exact ⟨rfl, b7, b8, Has.mk ⟨(by (conv => lhs; whnf) <;> rfl), (by (conv => lhs; whnf) <;> rfl), (by (conv => lhs; whnf) <;> rfl), (by (conv => lhs; whnf) <;> rfl), (by (conv => lhs; whnf) <;> rfl), trivial⟩, by first | exact List.Perm.refl _ | exact .swap _ _ _⟩
            · refine OW.alloc rfl rfl rfl tz46 (fun b8 => ?_)
              refine OW.nil ⟨rfl, (by repeat' first | exact List.Sublist.refl _ | exact List.nil_sublist _ | apply List.Sublist.cons_cons | apply List.Sublist.cons), ?_⟩
              refine HW.one 3 (by kernel_rfl) rfl ?_
              refine OW.q rfl rfl (yq_call rfl rfl (.cons (by (conv => lhs; whnf) <;> rfl) .nil) en65 (fun w hw => signed_calls y _ w hoy (by omega) (hy.mono hw))) ?_
              refine OW.nil ⟨rfl, (by repeat' first | exact List.Sublist.refl _ | exact List.nil_sublist _ | apply List.Sublist.cons_cons | apply List.Sublist.cons), ?_⟩
              refine HW.one 6 (by kernel_rfl) rfl ?_
              refine OW.store' rfl rfl rfl (by (conv => lhs; whnf) <;> rfl) (by (conv => lhs; whnf) <;> rfl) (vs := sgC x.sg (.slice ax x.path.length cx)) (by rw [sgC_length]; exact ti46) rfl (sgC_one rfl) (by repeat' first | exact Put.head | apply Put.tail) (cs' := sgC x.sg (.slice ax x.path.length cx)) (spl_eqlen (by first | (simp only [sgC_length]; done) | (simp only [sgC_length]; rfl))) (by simp only [sgC_length]; exact Nat.le_of_ble_eq_true rfl) ?_
              refine OW.nil ⟨rfl, (by repeat' first | exact List.Sublist.refl _ | exact List.nil_sublist _ | apply List.Sublist.cons_cons | apply List.Sublist.cons), ?_⟩
              refine HW.one 7 (by kernel_rfl) rfl ?_
              refine OW.store' rfl rfl rfl (by (conv => lhs; whnf) <;> rfl) (by (conv => lhs; whnf) <;> rfl) (vs := sgC y.sg (.slice ay y.path.length cy)) (by rw [sgC_length]; exact ti46) rfl (sgC_one rfl) (by repeat' first | exact Put.head | apply Put.tail) (cs' := sgC y.sg (.slice ay y.path.length cy)) (spl_eqlen (by first | (simp only [sgC_length]; done) | (simp only [sgC_length]; rfl))) (by simp only [sgC_length]; exact Nat.le_of_ble_eq_true rfl) ?_
              refine OW.nil ⟨rfl, (by repeat' first | exact List.Sublist.refl _ | exact List.nil_sublist _ | apply List.Sublist.cons_cons | apply List.Sublist.cons), ?_⟩
              refine HW.done (by kernel_rfl) ?_
              exact ⟨rfl, b7, b8, Has.mk ⟨(by (conv => lhs; whnf) <;> rfl), (by (conv => lhs; whnf) <;> rfl), (by (conv => lhs; whnf) <;> rfl), (by (conv => lhs; whnf) <;> rfl), (by (conv => lhs; whnf) <;> rfl), trivial⟩, by first | exact List.Perm.refl _ | exact .swap _ _ _⟩
          · refine OW.alloc rfl rfl rfl tz46 (fun b8 => ?_)
            refine OW.nil ⟨rfl, (by repeat' first | exact List.Sublist.refl _ | exact List.nil_sublist _ | apply List.Sublist.cons_cons | apply List.Sublist.cons), ?_⟩
            refine HW.one 1 (by kernel_rfl) rfl ?_
            refine OW.q rfl rfl (yq_call rfl rfl (.cons (by (conv => lhs; whnf) <;> rfl) .nil) en65 (fun w hw => signed_calls x _ w hox (by omega) (hx.mono hw))) ?_
            refine OW.nil ⟨rfl, (by repeat' first | exact List.Sublist.refl _ | exact List.nil_sublist _ | apply List.Sublist.cons_cons | apply List.Sublist.cons), ?_⟩
            refine HW.one 3 (by kernel_rfl) rfl ?_
            refine OW.q rfl rfl (yq_call rfl rfl (.cons (by (conv => lhs; whnf) <;> rfl) .nil) en65 (fun w hw => signed_calls y _ w hoy (by omega) (hy.mono hw))) ?_
            refine OW.nil ⟨rfl, (by repeat' first | exact List.Sublist.refl _ | exact List.nil_sublist _ | apply List.Sublist.cons_cons | apply List.Sublist.cons), ?_⟩
            refine HW.one 6 (by kernel_rfl) rfl ?_
            refine OW.store' rfl rfl rfl (by (conv => lhs; whnf) <;> rfl) (by (conv => lhs; whnf) <;> rfl) (vs := sgC x.sg (.slice ax x.path.length cx)) (by rw [sgC_length]; exact ti46) rfl (sgC_one rfl) (by repeat' first | exact Put.head | apply Put.tail) (cs' := sgC x.sg (.slice ax x.path.length cx)) (spl_eqlen (by first | (simp only [sgC_length]; done) | (simp only [sgC_length]; rfl))) (by simp only [sgC_length]; exact Nat.le_of_ble_eq_true rfl) ?_
            refine OW.nil ⟨rfl, (by repeat' first | exact List.Sublist.refl _ | exact List.nil_sublist _ | apply List.Sublist.cons_cons | apply List.Sublist.cons), ?_⟩
            refine HW.one 7 (by kernel_rfl) rfl ?_
            refine OW.store' rfl rfl rfl (by (conv => lhs; whnf) <;> rfl) (by (conv => lhs; whnf) <;> rfl) (vs := sgC y.sg (.slice ay y.path.length cy)) (by rw [sgC_length]; exact ti46) rfl (sgC_one rfl) (by repeat' first | exact Put.head | apply Put.tail) (cs' := sgC y.sg (.slice ay y.path.length cy)) (spl_eqlen (by first | (simp only [sgC_length]; done) | (simp only [sgC_length]; rfl))) (by simp only [sgC_length]; exact Nat.le_of_ble_eq_true rfl) ?_
            refine OW.nil ⟨rfl, (by repeat' first | exact List.Sublist.refl _ | exact List.nil_sublist _ | apply List.Sublist.cons_cons | apply List.Sublist.cons), ?_⟩
            refine HW.done (by kernel_rfl) ?_
            exact ⟨rfl, b7, b8, Has.mk ⟨(by (conv => lhs; whnf) <;> rfl), (by (conv => lhs; whnf) <;> rfl), (by (conv => lhs; whnf) <;> rfl), (by (conv => lhs; whnf) <;> rfl), (by (conv => lhs; whnf) <;> rfl), trivial⟩, by first | exact List.Perm.refl _ | exact .swap _ _ _⟩
        · refine OW.alloc rfl rfl rfl tz46 (fun b8 => ?_)
          refine OW.nil ⟨rfl, (by repeat' first | exact List.Sublist.refl _ | exact List.nil_sublist _ | apply List.Sublist.cons_cons | apply List.Sublist.cons), ?_⟩
          refine HW.two 1 4 (by kernel_rfl) rfl rfl ?_ ?_
          · refine OW.q rfl rfl (yq_call rfl rfl (.cons (by (conv => lhs; whnf) <;> rfl) .nil) en65 (fun w hw => signed_calls x _ w hox (by omega) (hx.mono hw))) ?_
            refine OW.nil ⟨rfl, (by repeat' first | exact List.Sublist.refl _ | exact List.nil_sublist _ | apply List.Sublist.cons_cons | apply List.Sublist.cons), ?_⟩
            refine HW.two 3 4 (by kernel_rfl) rfl rfl ?_ ?_
            · refine OW.q rfl rfl (yq_call rfl rfl (.cons (by (conv => lhs; whnf) <;> rfl) .nil) en65 (fun w hw => signed_calls y _ w hoy (by omega) (hy.mono hw))) ?_
              refine OW.nil ⟨rfl, (by repeat' first | exact List.Sublist.refl _ | exact List.nil_sublist _ | apply List.Sublist.cons_cons | apply List.Sublist.cons), ?_⟩
              refine HW.one 4 (by kernel_rfl) rfl ?_
              refine OW.alloc rfl rfl rfl tz46 (fun b7 => ?_)
              refine OW.nil ⟨rfl, (by repeat' first | exact List.Sublist.refl _ | exact List.nil_sublist _ | apply List.Sublist.cons_cons | apply List.Sublist.cons), ?_⟩
              refine HW.one 6 (by kernel_rfl) rfl ?_
              refine OW.store' rfl rfl rfl (by (conv => lhs; whnf) <;> rfl) (by (conv => lhs; whnf) <;> rfl) (vs := sgC x.sg (.slice ax x.path.length cx)) (by rw [sgC_length]; exact ti46) rfl (sgC_one rfl) (by repeat' first | exact Put.head | apply Put.tail) (cs' := sgC x.sg (.slice ax x.path.length cx)) (spl_eqlen (by first | (simp only [sgC_length]; done) | (simp only [sgC_length]; rfl))) (by simp only [sgC_length]; exact Nat.le_of_ble_eq_true rfl) ?_
              refine OW.nil ⟨rfl, (by repeat' first | exact List.Sublist.refl _ | exact List.nil_sublist _ | apply List.Sublist.cons_cons | apply List.Sublist.cons), ?_⟩
              refine HW.one 7 (by kernel_rfl) rfl ?_
              refine OW.store' rfl rfl rfl (by (conv => lhs; whnf) <;> rfl) (by (conv => lhs; whnf) <;> rfl) (vs := sgC y.sg (.slice ay y.path.length cy)) (by rw [sgC_length]; exact ti46) rfl (sgC_one rfl) (by repeat' first | exact Put.head | apply Put.tail) (cs' := sgC y.sg (.slice ay y.path.length cy)) (spl_eqlen (by first | (simp only [sgC_length]; done) | (simp only [sgC_length]; rfl))) (by simp only [sgC_length]; exact Nat.le_of_ble_eq_true rfl) ?_
              refine OW.nil ⟨rfl, (by repeat' first | exact List.Sublist.refl _ | exact List.nil_sublist _ | apply List.Sublist.cons_cons | apply List.Sublist.cons), ?_⟩
              refine HW.done (by kernel_rfl) ?_
              exact ⟨rfl, b7, b8, Has.mk ⟨(by (conv => lhs; whnf) <;> rfl), (by (conv => lhs; whnf) <;> rfl), (by (conv => lhs; whnf) <;> rfl), (by (conv => lhs; whnf) <;> rfl), (by (conv => lhs; whnf) <;> rfl), trivial⟩, by first | exact List.Perm.refl _ | exact .swap _ _ _⟩
            · refine OW.alloc rfl rfl rfl tz46 (fun b7 => ?_)
              refine OW.nil ⟨rfl, (by repeat' first | exact List.Sublist.refl _ | exact List.nil_sublist _ | apply List.Sublist.cons_cons | apply List.Sublist.cons), ?_⟩
              refine HW.one 3 (by kernel_rfl) rfl ?_
              refine OW.q rfl rfl (yq_call rfl rfl (.cons (by (conv => lhs; whnf) <;> rfl) .nil) en65 (fun w hw => signed_calls y _ w hoy (by omega) (hy.mono hw))) ?_
              refine OW.nil ⟨rfl, (by repeat' first | exact List.Sublist.refl _ | exact List.nil_sublist _ | apply List.Sublist.cons_cons | apply List.Sublist.cons), ?_⟩
              refine HW.one 6 (by kernel_rfl) rfl ?_
              refine OW.store' rfl rfl rfl (by (conv => lhs; whnf) <;> rfl) (by (conv => lhs; whnf) <;> rfl) (vs := sgC x.sg (.slice ax x.path.length cx)) (by rw [sgC_length]; exact ti46) rfl (sgC_one rfl) (by repeat' first | exact Put.head | apply Put.tail) (cs' := sgC x.sg (.slice ax x.path.length cx)) (spl_eqlen (by first | (simp only [sgC_length]; done) | (simp only [sgC_length]; rfl))) (by simp only [sgC_length]; exact Nat.le_of_ble_eq_true rfl) ?_
              refine OW.nil ⟨rfl, (by repeat' first | exact List.Sublist.refl _ | exact List.nil_sublist _ | apply List.Sublist.cons_cons | apply List.Sublist.cons), ?_⟩
              refine HW.one 7 (by kernel_rfl) rfl ?_
              refine OW.store' rfl rfl rfl (by (conv => lhs; whnf) <;> rfl) (by (conv => lhs; whnf) <;> rfl) (vs := sgC y.sg (.slice ay y.path.length cy)) (by rw [sgC_length]; exact ti46) rfl (sgC_one rfl) (by repeat' first | exact Put.head | apply Put.tail) (cs' := sgC y.sg (.slice ay y.path.length cy)) (spl_eqlen (by first | (simp only [sgC_length]; done) | (simp only [sgC_length]; rfl))) (by simp only [sgC_length]; exact Nat.le_of_ble_eq_true rfl) ?_
              refine OW.nil ⟨rfl, (by repeat' first | exact List.Sublist.refl _ | exact List.nil_sublist _ | apply List.Sublist.cons_cons | apply List.Sublist.cons), ?_⟩
              refine HW.done (by kernel_rfl) ?_
              exact ⟨rfl, b7, b8, Has.mk ⟨(by (conv => lhs; whnf) <;> rfl), (by (conv => lhs; whnf) <;> rfl), (by (conv => lhs; whnf) <;> rfl), (by (conv => lhs; whnf) <;> rfl), (by (conv => lhs; whnf) <;> rfl), trivial⟩, by first | exact List.Perm.refl _ | exact .swap _ _ _⟩
          · refine OW.alloc rfl rfl rfl tz46 (fun b7 => ?_)
            refine OW.nil ⟨rfl, (by repeat' first | exact List.Sublist.refl _ | exact List.nil_sublist _ | apply List.Sublist.cons_cons | apply List.Sublist.cons), ?_⟩
            refine HW.one 1 (by kernel_rfl) rfl ?_
            refine OW.q rfl rfl (yq_call rfl rfl (.cons (by (conv => lhs; whnf) <;> rfl) .nil) en65 (fun w hw => signed_calls x _ w hox (by omega) (hx.mono hw))) ?_
            refine OW.nil ⟨rfl, (by repeat' first | exact List.Sublist.refl _ | exact List.nil_sublist _ | apply List.Sublist.cons_cons | apply List.Sublist.cons), ?_⟩
            refine HW.one 3 (by kernel_rfl) rfl ?_
            refine OW.q rfl rfl (yq_call rfl rfl (.cons (by (conv => lhs; whnf) <;> rfl) .nil) en65 (fun w hw => signed_calls y _ w hoy (by omega) (hy.mono hw))) ?_
            refine OW.nil ⟨rfl, (by repeat' first | exact List.Sublist.refl _ | exact List.nil_sublist _ | apply List.Sublist.cons_cons | apply List.Sublist.cons), ?_⟩
            refine HW.one 6 (by kernel_rfl) rfl ?_
            refine OW.store' rfl rfl rfl (by (conv => lhs; whnf) <;> rfl) (by (conv => lhs; whnf) <;> rfl) (vs := sgC x.sg (.slice ax x.path.length cx)) (by rw [sgC_length]; exact ti46) rfl (sgC_one rfl) (by repeat' first | exact Put.head | apply Put.tail) (cs' := sgC x.sg (.slice ax x.path.length cx)) (spl_eqlen (by first | (simp only [sgC_length]; done) | (simp only [sgC_length]; rfl))) (by simp only [sgC_length]; exact Nat.le_of_ble_eq_true rfl) ?_
            refine OW.nil ⟨rfl, (by repeat' first | exact List.Sublist.refl _ | exact List.nil_sublist _ | apply List.Sublist.cons_cons | apply List.Sublist.cons), ?_⟩
            refine HW.one 7 (by kernel_rfl) rfl ?_
            refine OW.store' rfl rfl rfl (by (conv => lhs; whnf) <;> rfl) (by (conv => lhs; whnf) <;> rfl) (vs := sgC y.sg (.slice ay y.path.length cy)) (by rw [sgC_length]; exact ti46) rfl (sgC_one rfl) (by repeat' first | exact Put.head | apply Put.tail) (cs' := sgC y.sg (.slice ay y.path.length cy)) (spl_eqlen (by first | (simp only [sgC_length]; done) | (simp only [sgC_length]; rfl))) (by simp only [sgC_length]; exact Nat.le_of_ble_eq_true rfl) ?_
            refine OW.nil ⟨rfl, (by repeat' first | exact List.Sublist.refl _ | exact List.nil_sublist _ | apply List.Sublist.cons_cons | apply List.Sublist.cons), ?_⟩
            refine HW.done (by kernel_rfl) ?_
            exact ⟨rfl, b7, b8, Has.mk ⟨(by (conv => lhs; whnf) <;> rfl), (by (conv => lhs; whnf) <;> rfl), (by (conv => lhs; whnf) <;> rfl), (by (conv => lhs; whnf) <;> rfl), (by (conv => lhs; whnf) <;> rfl), trivial⟩, by first | exact List.Perm.refl _ | exact .swap _ _ _⟩
      · rintro _ L' ⟨b7, b8, ⟨ρ', rfl⟩, hperm⟩
        refine CW.perm hperm ?_
        refine CW.seq_k fun K5 hK5 => ?_
        refine CW.region ?_
        refine OW.q rfl rfl (yq_loadW (cs := sgC x.sg (.slice ax x.path.length cx)) rfl (by (conv => lhs; whnf) <;> rfl) (by rw [sgC_length]; exact ti46) (by repeat' first | exact List.mem_cons_self .. | apply List.mem_cons_of_mem)) ?_
        refine OW.q rfl rfl (yq_call rfl rfl (.cons (by (conv => lhs; whnf) <;> rfl) .nil) en69 (fun w hw => put2_calls x.sg _ w (hx.mono hw))) ?_
        refine OW.q rfl rfl (yq_move rfl (by (conv => lhs; whnf) <;> rfl)) ?_
        refine OW.q rfl rfl (yq_extract rfl (by (conv => lhs; whnf) <;> rfl) rfl) ?_
        refine OW.q rfl rfl (yq_extract rfl (by (conv => lhs; whnf) <;> rfl) rfl) ?_
        refine OW.q rfl rfl (yq_assign rfl (by (conv => lhs; whnf) <;> rfl)) ?_
        refine OW.q rfl rfl (yq_assign rfl (by (conv => lhs; whnf) <;> rfl)) ?_
        refine OW.nil ?_
        refine hK5 _ _ ?_
        refine CW.seq_k fun K6 hK6 => ?_
        refine CW.region ?_
        refine OW.q rfl rfl (yq_loadW (cs := sgC x.sg (.slice ax x.path.length cx)) rfl (by (conv => lhs; whnf) <;> rfl) (by rw [sgC_length]; exact ti46) (by repeat' first | exact List.mem_cons_self .. | apply List.mem_cons_of_mem)) ?_
        refine OW.q rfl rfl (yq_call rfl rfl (.cons (by (conv => lhs; whnf) <;> rfl) .nil) en64 (fun w hw => refput2_calls x.sg _ w (hx.mono hw))) ?_
        refine OW.q rfl rfl (yq_move rfl (by (conv => lhs; whnf) <;> rfl)) ?_
        refine OW.q rfl rfl (yq_extract rfl (by (conv => lhs; whnf) <;> rfl) rfl) ?_
        refine OW.q rfl rfl (yq_extract rfl (by (conv => lhs; whnf) <;> rfl) rfl) ?_
        refine OW.q rfl rfl (yq_assign rfl (by (conv => lhs; whnf) <;> rfl)) ?_
        refine OW.q rfl rfl (yq_assign rfl (by (conv => lhs; whnf) <;> rfl)) ?_
        refine OW.nil ?_
        refine hK6 _ _ ?_
        refine CW.seq_k fun K7 hK7 => ?_
        refine CW.seq_k fun K8 hK8 => ?_
        refine CW.draw mixed (by kernel_rfl) ?_
        refine QW.q rfl rfl (yq_move rfl (by (conv => lhs; whnf) <;> rfl)) ?_
        refine QW.q rfl rfl (yq_move rfl (by (conv => lhs; whnf) <;> rfl)) ?_
        refine QW.q rfl rfl ((yq_neq_bs rfl (by (conv => lhs; whnf) <;> rfl) (by (conv => lhs; whnf) <;> rfl)).to (v' := .bool false) (by simp)) ?_
        refine QW.q rfl rfl (yq_move rfl (by (conv => lhs; whnf) <;> rfl)) ?_
        refine QW.q rfl rfl (yq_move rfl (by (conv => lhs; whnf) <;> rfl)) ?_
        refine QW.q rfl rfl (yq_move rfl (by (conv => lhs; whnf) <;> rfl)) ?_
        refine QW.q rfl rfl ((yq_neq rfl (by (conv => lhs; whnf) <;> rfl) (by (conv => lhs; whnf) <;> rfl)).to (v' := .bool false) (by simp)) ?_
        refine QW.q rfl rfl (yq_pick rfl (by (conv => lhs; whnf) <;> rfl) (by (conv => lhs; whnf) <;> rfl)) ?_
        refine QW.q rfl rfl (yq_move rfl (by (conv => lhs; whnf) <;> rfl)) ?_
        refine QW.q rfl rfl (yq_fieldAddr rfl (by (conv => lhs; whnf) <;> rfl) tf46_0 ti33) ?_
        refine QW.q rfl rfl (yq_loadA (vs := headC x.sg.size x.sg.root) rfl (by (conv => lhs; whnf) <;> rfl) (by rw [headC_length]; exact ti33) (by repeat' first | exact List.mem_cons_self .. | apply List.mem_cons_of_mem) (fun j u hu => sg_head x.sg (.slice ax x.path.length cx) j u hu)) ?_
        refine QW.q rfl rfl (yq_call rfl rfl (.cons (by (conv => lhs; whnf) <;> rfl) .nil) en80 (fun w hw => digest_calls x.sg.size x.sg.root w (Cl_gl0 hw hg))) ?_
        refine QW.q rfl rfl (yq_fieldAddr rfl (by (conv => lhs; whnf) <;> rfl) tf46_0 ti33) ?_
        refine QW.q rfl rfl (yq_loadA (vs := headC x.sg.size x.sg.root) rfl (by (conv => lhs; whnf) <;> rfl) (by rw [headC_length]; exact ti33) (by repeat' first | exact List.mem_cons_self .. | apply List.mem_cons_of_mem) (fun j u hu => sg_head x.sg (.slice ax x.path.length cx) j u hu)) ?_
        refine QW.q rfl rfl (yq_call rfl rfl (.cons (by (conv => lhs; whnf) <;> rfl) .nil) en81 (fun w hw => refdigest_calls x.sg.size x.sg.root w)) ?_
        refine QW.q rfl rfl ((yq_neq_H rfl (by (conv => lhs; whnf) <;> rfl) (by (conv => lhs; whnf) <;> rfl) ta25 Tryd.underlying5 ti5 eg25).to (v' := .bool false) (by simp)) ?_
        refine QW.q rfl rfl (yq_pick rfl (by (conv => lhs; whnf) <;> rfl) (by (conv => lhs; whnf) <;> rfl)) ?_
        refine QW.q rfl rfl (yq_move rfl (by (conv => lhs; whnf) <;> rfl)) ?_
        refine QW.q rfl rfl (yq_loadW (cs := sgC x.sg (.slice ax x.path.length cx)) rfl (by (conv => lhs; whnf) <;> rfl) (by rw [sgC_length]; exact ti46) (by repeat' first | exact List.mem_cons_self .. | apply List.mem_cons_of_mem)) ?_
        refine QW.q rfl rfl (yq_call rfl rfl (.cons (by (conv => lhs; whnf) <;> rfl) .nil) en70 (fun w hw => valid_calls x.sg _ w (hx.mono hw))) ?_
        refine QW.q rfl rfl (yq_loadW (cs := sgC x.sg (.slice ax x.path.length cx)) rfl (by (conv => lhs; whnf) <;> rfl) (by rw [sgC_length]; exact ti46) (by repeat' first | exact List.mem_cons_self .. | apply List.mem_cons_of_mem)) ?_
        refine QW.q rfl rfl (yq_call rfl rfl (.cons (by (conv => lhs; whnf) <;> rfl) .nil) en82 (fun w hw => refvalid_calls x.sg _ w (hx.mono hw))) ?_
        refine QW.q rfl rfl ((yq_neq_bool rfl (by (conv => lhs; whnf) <;> rfl) (by (conv => lhs; whnf) <;> rfl) Tryd.underlying4).to (v' := .bool false) (by simp)) ?_
        refine QW.q rfl rfl (yq_pick rfl (by (conv => lhs; whnf) <;> rfl) (by (conv => lhs; whnf) <;> rfl)) ?_
        refine QW.q rfl rfl (yq_move rfl (by (conv => lhs; whnf) <;> rfl)) ?_
        refine QW.q rfl rfl ((yq_loadH (v := key) rfl (by (conv => lhs; whnf) <;> rfl) ti25 (by repeat' first | exact List.mem_cons_self .. | apply List.mem_cons_of_mem))) ?_
        refine QW.q rfl rfl (yq_loadW (cs := sgC x.sg (.slice ax x.path.length cx)) rfl (by (conv => lhs; whnf) <;> rfl) (by rw [sgC_length]; exact ti46) (by repeat' first | exact List.mem_cons_self .. | apply List.mem_cons_of_mem)) ?_
        refine QW.q rfl rfl (yq_call rfl rfl (.cons (by (conv => lhs; whnf) <;> rfl) ( .cons (by (conv => lhs; whnf) <;> rfl) .nil)) en83 (fun w hw => check2_calls key x.sg _ w (by omega) hpx (hx.mono hw) (Cl_gl0 hw hg))) ?_
        refine QW.q rfl rfl ((yq_loadH (v := key) rfl (by (conv => lhs; whnf) <;> rfl) ti25 (by repeat' first | exact List.mem_cons_self .. | apply List.mem_cons_of_mem))) ?_
        refine QW.q rfl rfl (yq_loadW (cs := sgC x.sg (.slice ax x.path.length cx)) rfl (by (conv => lhs; whnf) <;> rfl) (by rw [sgC_length]; exact ti46) (by repeat' first | exact List.mem_cons_self .. | apply List.mem_cons_of_mem)) ?_
        refine QW.q rfl rfl (yq_call rfl rfl (.cons (by (conv => lhs; whnf) <;> rfl) ( .cons (by (conv => lhs; whnf) <;> rfl) .nil)) en84 (fun w hw => refcheck2_calls key x.sg _ w (by omega) hpx (hx.mono hw))) ?_
        refine QW.q rfl rfl ((yq_neq rfl (by (conv => lhs; whnf) <;> rfl) (by (conv => lhs; whnf) <;> rfl)).to (v' := .bool false) (by simp)) ?_
        refine QW.q rfl rfl (yq_pick rfl (by (conv => lhs; whnf) <;> rfl) (by (conv => lhs; whnf) <;> rfl)) ?_
        refine QW.nil ?_
        refine hK8 _ _ ?_
        refine CW.cond_f (by (conv => lhs; whnf) <;> rfl) ?_
        refine CW.skip ?_
        refine hK7 _ _ ?_
        refine CW.seq_k fun K9 hK9 => ?_
        refine CW.draw mixed (by kernel_rfl) ?_
        refine QW.q rfl rfl (yq_fieldAddr rfl (by (conv => lhs; whnf) <;> rfl) tf46_0 ti33) ?_
        refine QW.q rfl rfl (yq_loadA (vs := headC x.sg.size x.sg.root) rfl (by (conv => lhs; whnf) <;> rfl) (by rw [headC_length]; exact ti33) (by repeat' first | exact List.mem_cons_self .. | apply List.mem_cons_of_mem) (fun j u hu => sg_head x.sg (.slice ax x.path.length cx) j u hu)) ?_
        refine QW.q rfl rfl (yq_fieldAddr rfl (by (conv => lhs; whnf) <;> rfl) tf46_0 ti33) ?_
        refine QW.q rfl rfl (yq_loadA (vs := headC y.sg.size y.sg.root) rfl (by (conv => lhs; whnf) <;> rfl) (by rw [headC_length]; exact ti33) (by repeat' first | exact List.mem_cons_self .. | apply List.mem_cons_of_mem) (fun j u hu => sg_head y.sg (.slice ay y.path.length cy) j u hu)) ?_
        refine QW.q rfl rfl (yq_call rfl rfl (.cons (by (conv => lhs; whnf) <;> rfl) ( .cons (by (conv => lhs; whnf) <;> rfl) .nil)) en85 (fun w hw => order_calls x.sg y.sg w)) ?_
        refine QW.q rfl rfl (yq_fieldAddr rfl (by (conv => lhs; whnf) <;> rfl) tf46_0 ti33) ?_
        refine QW.q rfl rfl (yq_loadA (vs := headC x.sg.size x.sg.root) rfl (by (conv => lhs; whnf) <;> rfl) (by rw [headC_length]; exact ti33) (by repeat' first | exact List.mem_cons_self .. | apply List.mem_cons_of_mem) (fun j u hu => sg_head x.sg (.slice ax x.path.length cx) j u hu)) ?_
        refine QW.q rfl rfl (yq_fieldAddr rfl (by (conv => lhs; whnf) <;> rfl) tf46_0 ti33) ?_
        refine QW.q rfl rfl (yq_loadA (vs := headC y.sg.size y.sg.root) rfl (by (conv => lhs; whnf) <;> rfl) (by rw [headC_length]; exact ti33) (by repeat' first | exact List.mem_cons_self .. | apply List.mem_cons_of_mem) (fun j u hu => sg_head y.sg (.slice ay y.path.length cy) j u hu)) ?_
        refine QW.q rfl rfl (yq_call rfl rfl (.cons (by (conv => lhs; whnf) <;> rfl) ( .cons (by (conv => lhs; whnf) <;> rfl) .nil)) en86 (fun w hw => reforder_calls x.sg y.sg w)) ?_
        refine QW.q rfl rfl ((yq_eql rfl (by (conv => lhs; whnf) <;> rfl) (by (conv => lhs; whnf) <;> rfl)).to (v' := .bool true) (by simp)) ?_
        refine QW.q rfl rfl (yq_move rfl (by (conv => lhs; whnf) <;> rfl)) ?_
        refine QW.q rfl rfl (yq_loadW (cs := sgC x.sg (.slice ax x.path.length cx)) rfl (by (conv => lhs; whnf) <;> rfl) (by rw [sgC_length]; exact ti46) (by repeat' first | exact List.mem_cons_self .. | apply List.mem_cons_of_mem)) ?_
        refine QW.q rfl rfl (yq_loadW (cs := sgC y.sg (.slice ay y.path.length cy)) rfl (by (conv => lhs; whnf) <;> rfl) (by rw [sgC_length]; exact ti46) (by repeat' first | exact List.mem_cons_self .. | apply List.mem_cons_of_mem)) ?_
        refine QW.q rfl rfl (yq_call rfl rfl (.cons (by (conv => lhs; whnf) <;> rfl) ( .cons (by (conv => lhs; whnf) <;> rfl) .nil)) en87 (fun w hw => same2_calls x.sg y.sg _ _ w hpx (hx.mono hw) (hy.mono hw))) ?_
        refine QW.q rfl rfl (yq_loadW (cs := sgC x.sg (.slice ax x.path.length cx)) rfl (by (conv => lhs; whnf) <;> rfl) (by rw [sgC_length]; exact ti46) (by repeat' first | exact List.mem_cons_self .. | apply List.mem_cons_of_mem)) ?_
        refine QW.q rfl rfl (yq_loadW (cs := sgC y.sg (.slice ay y.path.length cy)) rfl (by (conv => lhs; whnf) <;> rfl) (by rw [sgC_length]; exact ti46) (by repeat' first | exact List.mem_cons_self .. | apply List.mem_cons_of_mem)) ?_
        refine QW.q rfl rfl (yq_call rfl rfl (.cons (by (conv => lhs; whnf) <;> rfl) ( .cons (by (conv => lhs; whnf) <;> rfl) .nil)) en88 (fun w hw => refsame2_calls x.sg y.sg _ _ w hpx (hx.mono hw) (hy.mono hw))) ?_
        refine QW.q rfl rfl ((yq_eql_bool rfl (by (conv => lhs; whnf) <;> rfl) (by (conv => lhs; whnf) <;> rfl) Tryd.underlying4).to (v' := .bool true) (by simp)) ?_
        refine QW.q rfl rfl (yq_pick rfl (by (conv => lhs; whnf) <;> rfl) (by (conv => lhs; whnf) <;> rfl)) ?_
        refine QW.q rfl rfl (yq_move rfl (by (conv => lhs; whnf) <;> rfl)) ?_
        refine QW.q rfl rfl (yq_loadW (cs := sgC x.sg (.slice ax x.path.length cx)) rfl (by (conv => lhs; whnf) <;> rfl) (by rw [sgC_length]; exact ti46) (by repeat' first | exact List.mem_cons_self .. | apply List.mem_cons_of_mem)) ?_
        refine QW.q rfl rfl (yq_loadW (cs := sgC x.sg (.slice ax x.path.length cx)) rfl (by (conv => lhs; whnf) <;> rfl) (by rw [sgC_length]; exact ti46) (by repeat' first | exact List.mem_cons_self .. | apply List.mem_cons_of_mem)) ?_
        refine QW.q rfl rfl ((yq_call rfl rfl (.cons (by (conv => lhs; whnf) <;> rfl) (.cons (by (conv => lhs; whnf) <;> rfl) .nil)) en87 (fun w hw => same2_calls x.sg x.sg _ _ w hpx (hx.mono hw) (hx.mono hw))).to (v' := .bool true) (by simp)) ?_
        refine QW.q rfl rfl (yq_pick rfl (by (conv => lhs; whnf) <;> rfl) (by (conv => lhs; whnf) <;> rfl)) ?_
        refine QW.q rfl rfl (yq_move rfl (by (conv => lhs; whnf) <;> rfl)) ?_
        refine QW.q rfl rfl (yq_call rfl rfl .nil en63 (fun w hw => headed_calls w (Cl_gl0 hw hg))) ?_
        refine QW.q rfl rfl (yq_pick rfl (by (conv => lhs; whnf) <;> rfl) (by (conv => lhs; whnf) <;> rfl)) ?_
        refine QW.q rfl rfl (yq_assign rfl (by (conv => lhs; whnf) <;> rfl)) ?_
        refine QW.nil ?_
        refine hK9 _ _ ?_
        refine CW.ret ?_
        -- ret (ret)
        exact fin1 (Or.inr rfl) rfl ⟨by decide, (by (conv => lhs; whnf) <;> rfl)⟩ (fun w hw => ⟨rfl, hw.sub (List.nil_sublist _)⟩)
end Go.Proofs.YtahdekllphehkaaDoor
