/- Rough heads; structs built; no statement of the seat is proved here. -/
import Derived.Test.YtahdekllphehkaaDoorH3h
import Derived.Test.YtahdekllphehkaaDoorL18h
set_option linter.unusedVariables false
set_option linter.unusedSimpArgs false
namespace Go.Proofs.YtahdekllphehkaaDoor
open Go.WL Go.Spec
/-! ### rough heads -/
structure Rg where
  size : Int
  root : Hash
  index : Int
  sig : Bytes
  more : Int
  path : List Hash
def Rg.ok (x : Rg) : Prop := (-128 ≤ x.more ∧ x.more ≤ 127) ∧ (-9223372036854775808 ≤ x.size ∧ x.size ≤ 9223372036854775807) ∧ (-9223372036854775808 ≤ x.index ∧ x.index ≤ 9223372036854775807) ∧ x.sig.length ≤ maxLen
def rgT (x : Rg) (v : Value) : List Value := [.int .i64 x.index, .string (bs x.sig), .int .i8 x.more, v]
def rgC (x : Rg) (v : Value) : List Value := headC x.size x.root ++ rgT x v
theorem rgC_length (x : Rg) (v : Value) : (rgC x v).length = 37 := by unfold rgC; rw [List.length_append, headC_length]; rfl
theorem rg_r (x : Rg) (v : Value) (k : Nat) : (rgC x v)[33 + k]? = (rgT x v)[k]? := by
  unfold rgC
  rw [List.getElem?_append_right (by rw [headC_length]; omega), headC_length]
  congr 1; omega
theorem rg_33 (x : Rg) (v : Value) : (rgC x v)[33]? = some (.int .i64 x.index) := rg_r x v 0
theorem rg_34 (x : Rg) (v : Value) : (rgC x v)[34]? = some (.string (bs x.sig)) := rg_r x v 1
theorem rg_35 (x : Rg) (v : Value) : (rgC x v)[35]? = some (.int .i8 x.more) := rg_r x v 2
theorem rg_36 (x : Rg) (v : Value) : (rgC x v)[36]? = some v := rg_r x v 3
theorem rg_head (x : Rg) (v : Value) (j : Nat) (u : Value) (h : (headC x.size x.root)[j]? = some u) : (rgC x v)[0 + j]? = some u := by
  have hj : j < (headC x.size x.root).length := by
    rcases Nat.lt_or_ge j (headC x.size x.root).length with h1 | h1
    · exact h1
    · rw [List.getElem?_eq_none h1] at h; cases h
  unfold rgC
  rw [Nat.zero_add, List.getElem?_append_left hj]; exact h
def RgV (x : Rg) (v : Value) : Value := .agg (rgC x v).toArray
def Rg.great (x : Rg) : Prop := 300 < x.sig.length ∨ 40 < x.path.length
instance (x : Rg) : Decidable x.great := by unfold Rg.great; exact inferInstance
/-- A text again and again, up to a length. -/
def repS (sig : Bytes) (n : Nat) (s : Bytes) : Bytes := if h : 0 < sig.length ∧ s.length < n then repS sig n (s ++ sig) else s
termination_by n - s.length
decreasing_by rw [List.length_append]; omega
theorem repS_more {sig s : Bytes} {n : Nat} (h : 0 < sig.length ∧ s.length < n) : repS sig n s = repS sig n (s ++ sig) := by rw [repS, dif_pos h]
theorem repS_done {sig s : Bytes} {n : Nat} (h : ¬ (0 < sig.length ∧ s.length < n)) : repS sig n s = s := by rw [repS, dif_neg h]
def Rg.n (x : Rg) : Nat := (16384 + x.more).toNat
def Rg.sg (x : Rg) : Sg := ⟨x.size, x.root, x.index, (repS x.sig x.n []).take x.n, x.path⟩
theorem Rg.n_le {x : Rg} (h : x.ok) : x.n ≤ 16511 ∧ ((x.n : Nat) : Int) = 16384 + x.more := by
  have := h.1
  unfold Rg.n
  omega
theorem Rg.sig_le {x : Rg} (h : x.ok) : x.sg.sig.length ≤ 16511 := by
  have := (Rg.n_le h).1
  show ((repS x.sig x.n []).take x.n).length ≤ 16511
  rw [List.length_take]
  omega
theorem bt33 (pv : List (Nat × Value)) : Tryd.prog.built 33 pv = Instr.fill (#[(0, 1), (1, 32)][·]?) ([] ++ headC 0 zeroHash).toArray pv := by kernel_rfl
theorem bt46 (pv : List (Nat × Value)) : Tryd.prog.built 46 pv = Instr.fill (#[(0, 33), (33, 3)][·]?) ([] ++ sgC Sg.none (.slice none 0 0)).toArray pv := by kernel_rfl
theorem built33 (m : Int) (g : Hash) : Tryd.prog.built 33 [(0, .int .i64 m), (1, HV g)] = some (headC m g).toArray := by
  have hd : ((headC 0 zeroHash).drop [Value.int .i64 m].length).drop (hc g).length = [] := List.drop_eq_nil_of_le (by simp [headC_length])
  rw [bt33, fill_app (vs := [.int .i64 m]) (by rfl) rfl (by simp [headC_length]), fill_app (vs := hc g) (by rw [hc_length]; rfl) rfl (by simp [headC_length]), fill_end, hd, List.append_nil]
  rfl
theorem built46 (s : Sg) (v : Value) : Tryd.prog.built 46 [(0, .agg (headC s.size s.root).toArray), (1, .agg (sealC s v).toArray)] = some (sgC s v).toArray := by
  have hd : ((sgC Sg.none (.slice none 0 0)).drop (headC s.size s.root).length).drop (sealC s v).length = [] := List.drop_eq_nil_of_le (by simp [headC_length, sgC_length, sealC])
  rw [bt46, fill_app (vs := headC s.size s.root) (by rw [headC_length]; rfl) rfl (by simp [headC_length, sgC_length]), fill_app (vs := sealC s v) (by rw [List.nil_append, headC_length]; rfl) rfl (by simp [headC_length, sgC_length, sealC]), fill_end, hd, List.append_nil]
  rfl
theorem built46e : Tryd.prog.built 46 [] = some (sgC Sg.none (.slice none 0 0)).toArray := by rw [bt46, fill_end]; rfl
theorem sgC_one {s : Sg} {v : Value} (h : v.oneCell' = true) : ∀ u ∈ sgC s v, u.oneCell' = true := by
  intro u hu
  unfold sgC headC sealC at hu
  simp only [List.cons_append, List.mem_cons, List.mem_append, List.not_mem_nil, or_false] at hu
  rcases hu with rfl | hu | rfl | rfl | rfl
  · rfl
  · exact hc_one _ _ hu
  · rfl
  · rfl
  · exact h
theorem spl_eqlen {cs vs : List Value} (h : cs.length = vs.length) : spl cs 0 vs = vs := by
  unfold spl
  rw [List.take_zero, List.nil_append, List.drop_eq_nil_of_le (by omega), List.append_nil]
theorem spl_sg (s s' : Sg) (v v' : Value) : spl (sgC s v) 0 (sgC s' v') = sgC s' v' := spl_eqlen (by rw [sgC_length, sgC_length])
theorem take_min (s : Bytes) (n : Nat) : s.take (min s.length n) = s.take n := by
  rcases Nat.le_total s.length n with h | h
  · rw [Nat.min_eq_left h, List.take_length, List.take_of_length_le h]
  · rw [Nat.min_eq_right h]
set_option maxRecDepth 100000 in
set_option maxHeartbeats 1000000 in
theorem great_calls (x : Rg) (v : Value) (w : World) (hs : HsAt w v x.path) :
    Calls Tryd.prog 62 #[RgV x v] w fun e w' => e = .returned (.bool (decide x.great)) ∧ Cl w [] [] w' := by
  have hs0 := hs
  obtain ⟨a0, cap0, rfl⟩ := hs0.len
  refine calls_of_CW (L := []) Tryd.func62 rfl (Nat.le_of_ble_eq_true rfl) (Cl.refl _) ?_
  refine CW.seq_k fun K1 hK1 => ?_
  refine CW.region ?_
  refine OW.box (cs := rgC x (.slice a0 x.path.length cap0)) rfl rfl rfl (by (conv => lhs; whnf) <;> rfl) rfl (fun b1 => ?_)
  refine OW.q rfl rfl (yq_assign rfl (by (conv => lhs; whnf) <;> rfl)) ?_
  refine OW.nil ?_
  refine hK1 _ _ ?_
  refine CW.seq_k fun K2 hK2 => ?_
  refine CW.region ?_
  refine OW.q rfl rfl (yq_fieldAddr rfl (by (conv => lhs; whnf) <;> rfl) tf36_2 ti9) ?_
  refine OW.q rfl rfl (yq_load1 rfl (by (conv => lhs; whnf) <;> rfl) ti9 (by repeat' first | exact List.mem_cons_self .. | apply List.mem_cons_of_mem) (rg_34 x _)) ?_
  refine OW.q rfl rfl (yq_len_bs rfl tt9 (by (conv => lhs; whnf) <;> rfl)) ?_
  refine OW.qb rfl rfl (yq_gtr rfl (by (conv => lhs; whnf) <;> rfl) (by (conv => lhs; whnf) <;> rfl)) (fun b6 hb6 => ?_)
  refine OW.q rfl rfl (yq_move rfl (by (conv => lhs; whnf) <;> rfl)) ?_
  apply OW.segOr 5 [8, 9, 10, 11] 12 hb6
  · intro hb6e
    refine QW.q (by subst hb6e; rfl) rfl (yq_fieldAddr rfl (by (conv => lhs; whnf) <;> rfl) tf36_4 ti22) ?_
    refine QW.q (by subst hb6e; rfl) rfl (yq_load1 rfl (by (conv => lhs; whnf) <;> rfl) ti22 (by repeat' first | exact List.mem_cons_self .. | apply List.mem_cons_of_mem) (rg_36 x _)) ?_
    refine QW.q (by subst hb6e; rfl) rfl (yq_len_slice rfl ts22 (by (conv => lhs; whnf) <;> rfl)) ?_
    refine QW.qb (by subst hb6e; rfl) rfl (yq_gtr rfl (by (conv => lhs; whnf) <;> rfl) (by (conv => lhs; whnf) <;> rfl)) (fun b11 hb11 => ?_)
    refine QW.q rfl rfl (yq_pick rfl (by (conv => lhs; whnf) <;> rfl) (by subst hb6e; ((conv => lhs; whnf) <;> rfl))) ?_
    exact QW.nil (SegM.mk (any_c (any_c (any_c (any_c any_n)))) (or_run hb6 hb6e hb11))
  · intro hb6e
    refine QW.skip (by subst hb6e; rfl) rfl ?_
    refine QW.skip (by subst hb6e; rfl) rfl ?_
    refine QW.skip (by subst hb6e; rfl) rfl ?_
    refine QW.skip (by subst hb6e; rfl) rfl ?_
    refine QW.q rfl rfl (yq_pick rfl (by (conv => lhs; whnf) <;> rfl) (by subst hb6e; ((conv => lhs; whnf) <;> rfl))) ?_
    exact QW.nil (SegM.mk (any_c (any_c (any_c (any_c any_n)))) (or_skip hb6 hb6e))
  · intro ρ12 b12 hA hb12
    obtain ⟨x8, x9, x10, x11, rfl⟩ := hA
    refine OW.q rfl rfl (yq_assign rfl (by (conv => lhs; whnf) <;> rfl)) ?_
    refine OW.nil ?_
    refine hK2 _ _ ?_
    refine CW.ret ?_
    -- ret (ret)
    have hbe : b12 = decide x.great := Bool.eq_iff_iff.2 (by rw [hb12, decide_eq_true_iff]; unfold Rg.great; omega)
    subst hbe
    exact fin1 (Or.inr rfl) rfl ⟨by decide, (by (conv => lhs; whnf) <;> rfl)⟩ (fun w hw => ⟨rfl, hw.sub (List.nil_sublist _)⟩)
set_option maxRecDepth 100000 in
set_option maxHeartbeats 1000000 in
theorem signed_calls (x : Rg) (v : Value) (w : World) (hok : x.ok) (hsl : x.sig.length ≤ 300) (hs : HsAt w v x.path) :
    Calls Tryd.prog 65 #[RgV x v] w fun e w' => e = .returned (SgV x.sg v) ∧ Cl w [] [] w' := by
  have hs0 := hs
  obtain ⟨a0, cap0, rfl⟩ := hs0.len
  have hn := Rg.n_le hok
  obtain ⟨⟨hm1, hm2⟩, _⟩ := id hok
  refine calls_of_CW (L := []) Tryd.func65 rfl (Nat.le_of_ble_eq_true rfl) (Cl.refl _) ?_
  refine CW.seq_k fun K1 hK1 => ?_
  refine CW.region ?_
  refine OW.box (cs := rgC x (.slice a0 x.path.length cap0)) rfl rfl rfl (by (conv => lhs; whnf) <;> rfl) rfl (fun b1 => ?_)
  refine OW.alloc rfl rfl rfl tz46 (fun b2 => ?_)
  refine OW.nil ?_
  refine hK1 _ _ ?_
  refine CW.seq_k fun K2 hK2 => ?_
  refine CW.region ?_
  refine OW.q rfl rfl (yq_fieldAddr rfl (by (conv => lhs; whnf) <;> rfl) tf36_3 ti34) ?_
  refine OW.q rfl rfl (yq_load1 rfl (by (conv => lhs; whnf) <;> rfl) ti34 (by repeat' first | exact List.mem_cons_self .. | apply List.mem_cons_of_mem) (rg_35 x _)) ?_
  refine OW.q rfl rfl (yq_conv_int (r := x.more) rfl Tryd.underlying34 Tryd.underlying3 (by (conv => lhs; whnf) <;> rfl) (wrap64_in (by omega))) ?_
  refine OW.q rfl rfl ((yq_add rfl (by (conv => lhs; whnf) <;> rfl) (by (conv => lhs; whnf) <;> rfl) (by omega)).to (v' := .int .i64 (x.n : Int)) (by rw [hn.2])) ?_
  refine OW.q rfl rfl (yq_assign rfl (by (conv => lhs; whnf) <;> rfl)) ?_
  refine OW.nil ?_
  refine hK2 _ _ ?_
  refine CW.seq_k fun K3 hK3 => ?_
  refine CW.region ?_
  refine OW.q rfl rfl (yq_assign rfl (by (conv => lhs; whnf) <;> rfl)) ?_
  refine OW.nil ?_
  refine hK3 _ _ ?_
  refine CW.seq_k fun K4 hK4 => ?_
  refine CW.block ?_
  refine CW.loop (σ := Bytes) (fun s ρ L => Has ρ [(1, .pointer (some ⟨b1, 0, none⟩)), (2, .pointer (some ⟨b2, 0, none⟩)), (3, .int .i64 (x.n : Int)), (4, .string (bs s))] ∧ repS x.sig x.n s = repS x.sig x.n [] ∧ s.length ≤ 17000 ∧ L = [.blk b2 (sgC Sg.none (.slice none 0 0)) 46 (0, 0), .blk b1 (rgC x (.slice a0 x.path.length cap0)) 36 (0, 0)]) (fun s => x.n - s.length) ([]) ?_ ?_
  · exact ⟨Has.mk ⟨(by (conv => lhs; whnf) <;> rfl), (by (conv => lhs; whnf) <;> rfl), (by (conv => lhs; whnf) <;> rfl), (by (conv => lhs; whnf) <;> rfl), trivial⟩, rfl, by decide, rfl⟩
  · rintro s _ _ ⟨⟨ρ', rfl⟩, hR, hsl2, rfl⟩
    refine CW.seq_k fun K5 hK5 => ?_
    refine CW.seq_k fun K6 hK6 => ?_
    refine CW.region ?_
    refine OW.q rfl rfl (yq_fieldAddr rfl (by (conv => lhs; whnf) <;> rfl) tf36_2 ti9) ?_
    refine OW.q rfl rfl (yq_load1 rfl (by (conv => lhs; whnf) <;> rfl) ti9 (by repeat' first | exact List.mem_cons_self .. | apply List.mem_cons_of_mem) (rg_34 x _)) ?_
    refine OW.q rfl rfl (yq_len_bs rfl tt9 (by (conv => lhs; whnf) <;> rfl)) ?_
    refine OW.qb rfl rfl (yq_gtr rfl (by (conv => lhs; whnf) <;> rfl) (by (conv => lhs; whnf) <;> rfl)) (fun b12 hb12 => ?_)
    refine OW.q rfl rfl (yq_move rfl (by (conv => lhs; whnf) <;> rfl)) ?_
    apply OW.segAnd 5 [14, 15, 16, 17] 18 hb12
    · intro hb12e
      refine QW.q (by subst hb12e; rfl) rfl (yq_move rfl (by (conv => lhs; whnf) <;> rfl)) ?_
      refine QW.q (by subst hb12e; rfl) rfl (yq_len_bs rfl tt9 (by (conv => lhs; whnf) <;> rfl)) ?_
      refine QW.q (by subst hb12e; rfl) rfl (yq_move rfl (by (conv => lhs; whnf) <;> rfl)) ?_
      refine QW.qb (by subst hb12e; rfl) rfl (yq_lss rfl (by (conv => lhs; whnf) <;> rfl) (by (conv => lhs; whnf) <;> rfl)) (fun b17 hb17 => ?_)
      refine QW.q rfl rfl (yq_pick rfl (by (conv => lhs; whnf) <;> rfl) (by subst hb12e; ((conv => lhs; whnf) <;> rfl))) ?_
      exact QW.nil (SegM.mk (any_c (any_c (any_c (any_c any_n)))) (and_run hb12 hb12e hb17))
    · intro hb12e
      refine QW.skip (by subst hb12e; rfl) rfl ?_
      refine QW.skip (by subst hb12e; rfl) rfl ?_
      refine QW.skip (by subst hb12e; rfl) rfl ?_
      refine QW.skip (by subst hb12e; rfl) rfl ?_
      refine QW.q rfl rfl (yq_pick rfl (by (conv => lhs; whnf) <;> rfl) (by subst hb12e; ((conv => lhs; whnf) <;> rfl))) ?_
      exact QW.nil (SegM.mk (any_c (any_c (any_c (any_c any_n)))) (and_skip hb12 hb12e))
    · intro ρ18 b18 hA hb18
      obtain ⟨x14, x15, x16, x17, rfl⟩ := hA
      refine OW.nil ?_
      refine hK6 _ _ ?_
      refine CW.condq (by (conv => lhs; whnf) <;> rfl) hb18 (fun hc1 => ?_) (fun hc1 => ?_)
      · have hmore : 0 < x.sig.length ∧ s.length < x.n := by omega
        refine CW.skip ?_
        refine hK5 _ _ ?_
        refine CW.block ?_
        refine CW.region ?_
        refine OW.q rfl rfl (yq_move rfl (by (conv => lhs; whnf) <;> rfl)) ?_
        refine OW.q rfl rfl (yq_fieldAddr rfl (by (conv => lhs; whnf) <;> rfl) tf36_2 ti9) ?_
        refine OW.q rfl rfl (yq_load1 rfl (by (conv => lhs; whnf) <;> rfl) ti9 (by repeat' first | exact List.mem_cons_self .. | apply List.mem_cons_of_mem) (rg_34 x _)) ?_
        refine OW.q rfl rfl (yq_add_bs rfl (by (conv => lhs; whnf) <;> rfl) (by (conv => lhs; whnf) <;> rfl) (by omega)) ?_
        refine OW.q rfl rfl (yq_assign rfl (by (conv => lhs; whnf) <;> rfl)) ?_
        refine OW.nil ?_
        exact ⟨s ++ x.sig, ⟨Has.mk ⟨(by (conv => lhs; whnf) <;> rfl), (by (conv => lhs; whnf) <;> rfl), (by (conv => lhs; whnf) <;> rfl), (by (conv => lhs; whnf) <;> rfl), trivial⟩, by rw [← hR]; exact (repS_more hmore).symm, by rw [List.length_append]; omega, rfl⟩, by rw [List.length_append]; omega⟩
      · have hdone : repS x.sig x.n [] = s := by rw [← hR]; exact repS_done (by omega)
        refine CW.exit ?_
        refine then_exit ?_
        refine then_exit ?_
        refine blockQ_hit ?_
        refine hK4 _ _ ?_
        refine CW.seq_k fun K7 hK7 => ?_
        refine CW.drawT 14 mixed (by kernel_rfl) ?_
        refine QW.q rfl rfl (yq_fieldAddr rfl (by (conv => lhs; whnf) <;> rfl) tf36_0 ti33) ?_
        refine QW.q rfl rfl (yq_loadA (vs := headC x.size x.root) rfl (by (conv => lhs; whnf) <;> rfl) (by rw [headC_length]; exact ti33) (by repeat' first | exact List.mem_cons_self .. | apply List.mem_cons_of_mem) (fun j u hu => rg_head x _ j u hu)) ?_
        refine QW.q rfl rfl (yq_fieldAddr rfl (by (conv => lhs; whnf) <;> rfl) tf36_1 ti3) ?_
        refine QW.q rfl rfl (yq_load1 rfl (by (conv => lhs; whnf) <;> rfl) ti3 (by repeat' first | exact List.mem_cons_self .. | apply List.mem_cons_of_mem) (rg_33 x _)) ?_
        refine QW.q rfl rfl (yq_move rfl (by (conv => lhs; whnf) <;> rfl)) ?_
        refine QW.q rfl rfl (yq_move rfl (by (conv => lhs; whnf) <;> rfl)) ?_
        refine QW.q rfl rfl (yq_len_bs rfl tt9 (by (conv => lhs; whnf) <;> rfl)) ?_
        refine QW.q rfl rfl (yq_move rfl (by (conv => lhs; whnf) <;> rfl)) ?_
        refine QW.q rfl rfl (yq_min (r := ((min s.length x.n : Nat) : Int)) rfl (by (conv => lhs; whnf) <;> rfl) (by (conv => lhs; whnf) <;> rfl) (by split <;> omega)) ?_
        refine QW.q rfl rfl ((yq_slice_bs_to (h := min s.length x.n) rfl (by (conv => lhs; whnf) <;> rfl) tt9 (by exact ⟨_, _, (by (conv => lhs; whnf) <;> rfl), by omega, by omega⟩) (by omega)).to (v' := .string (bs x.sg.sig)) (by show _ = Value.string (bs ((repS x.sig x.n []).take x.n)); rw [hdone, take_min])) ?_
        refine QW.q rfl rfl (yq_fieldAddr rfl (by (conv => lhs; whnf) <;> rfl) tf36_4 ti22) ?_
        refine QW.q rfl rfl (yq_load1 rfl (by (conv => lhs; whnf) <;> rfl) ti22 (by repeat' first | exact List.mem_cons_self .. | apply List.mem_cons_of_mem) (rg_36 x _)) ?_
        refine QW.q rfl rfl ((yq_build (cs := sealC x.sg (.slice a0 x.path.length cap0)) rfl rfl (by kernel_rfl))) ?_
        refine QW.q rfl rfl ((yq_build (cs := sgC x.sg (.slice a0 x.path.length cap0)) rfl rfl (built46 x.sg (.slice a0 x.path.length cap0)))) ?_
        refine QW.nil ?_
        refine OW.store' rfl rfl rfl (by (conv => lhs; whnf) <;> rfl) (by (conv => lhs; whnf) <;> rfl) (vs := sgC x.sg (.slice a0 x.path.length cap0)) (by rw [sgC_length]; exact ti46) rfl (sgC_one rfl) (by repeat' first | exact Put.head | apply Put.tail) (cs' := sgC x.sg (.slice a0 x.path.length cap0)) (spl_sg _ _ _ _) (by rw [sgC_length, sgC_length]; decide) ?_
        refine OW.nil ?_
        refine hK7 _ _ ?_
        refine CW.ret ?_
        -- ret (ret)
        exact fin1 (Or.inr rfl) rfl (rv_agg (vs := sgC x.sg (.slice a0 x.path.length cap0)) (by decide) (by (conv => lhs; whnf) <;> rfl) (by rw [sgC_length]; exact ti46) (by repeat' first | exact List.mem_cons_self .. | apply List.mem_cons_of_mem)) (fun w hw => ⟨rfl, hw.sub (List.nil_sublist _)⟩)
set_option maxRecDepth 100000 in
set_option maxHeartbeats 1000000 in
theorem small_calls (n : Nat) (w : World) (h : n < 18446744073709551616) :
    Calls Tryd.prog 134 #[U64 (UInt64.ofNat n)] w fun e w' => e = .returned (.int .i64 (small n)) ∧ Cl w [] [] w' := by
  have hun := u64_nat h
  refine calls_of_CW (L := []) Tryd.func134 rfl (Nat.le_of_ble_eq_true rfl) (Cl.refl _) ?_
  refine CW.seq_k fun K1 hK1 => ?_
  refine CW.region ?_
  refine OW.q rfl rfl (yq_assign rfl (by (conv => lhs; whnf) <;> rfl)) ?_
  refine OW.nil ?_
  refine hK1 _ _ ?_
  refine CW.seq_k fun K2 hK2 => ?_
  refine CW.region ?_
  refine OW.q rfl rfl (yq_move rfl (by (conv => lhs; whnf) <;> rfl)) ?_
  refine OW.q rfl rfl (yq_min (r := ((min n 1073741824 : Nat) : Int)) rfl (by (conv => lhs; whnf) <;> rfl) (by (conv => lhs; whnf) <;> rfl) (by rw [hun]; split <;> omega)) ?_
  refine OW.q rfl rfl (yq_conv_int (r := small n) rfl Tryd.underlying147 Tryd.underlying3 (by (conv => lhs; whnf) <;> rfl) (by rw [small_eq]; exact wrap64_in (by omega))) ?_
  refine OW.q rfl rfl (yq_assign rfl (by (conv => lhs; whnf) <;> rfl)) ?_
  refine OW.nil ?_
  refine hK2 _ _ ?_
  refine CW.ret ?_
  -- ret (ret)
  exact fin1 (Or.inr rfl) rfl ⟨by decide, (by (conv => lhs; whnf) <;> rfl)⟩ (fun w hw => ⟨rfl, hw.sub (List.nil_sublist _)⟩)
end Go.Proofs.YtahdekllphehkaaDoor
