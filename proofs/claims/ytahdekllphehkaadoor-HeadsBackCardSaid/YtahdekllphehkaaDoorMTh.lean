/- Trees of keys; no statement of the seat is proved here. -/
import Derived.Test.YtahdekllphehkaaDoorMQh
import Derived.Test.YtahdekllphehkaaDoorMPh
set_option linter.unusedVariables false
set_option linter.unusedSimpArgs false
namespace Go.Proofs.YtahdekllphehkaaDoor
open Go.WL Go.Spec
def keyH (seed : Bytes) (i : Nat) : Hash := keyLeaf (publicL seed i)
def leavesL (seed : Bytes) : List Hash := (List.range 8).map (keyH seed)
/-- The cells of a tree of keys. -/
def treeC (seed : Bytes) (l : List Hash) : List Value := [.bool true, .string (bs seed)] ++ l.flatMap hc
/-- A pointer to a tree of a seed, or to none. -/
def TreeAt (w : World) (p : Value) : Option Bytes → Prop
  | none => p = .pointer none ∨ ∃ b, p = .pointer (some ⟨b, 0, none⟩) ∧ w.cell? ⟨b, 0, none⟩ = some (.bool false)
  | some seed => ∃ b, p = .pointer (some ⟨b, 0, none⟩) ∧ ∀ j u, (treeC seed (leavesL seed))[j]? = some u → w.cell? ⟨b, j, none⟩ = some u
theorem TreeAt.mono {w w' : World} {p : Value} {T : Option Bytes} {L' : List Ent} (h : TreeAt w p T) (hc' : Cl w [] L' w') : TreeAt w' p T := by
  cases T with
  | none =>
    rcases h with h | ⟨b, rfl, h⟩
    · exact .inl h
    · exact .inr ⟨b, rfl, hc'.keep h⟩
  | some seed =>
    obtain ⟨b, rfl, h⟩ := h
    exact ⟨b, rfl, fun j u hu => hc'.keep (h j u hu)⟩
def SealV (i : Int) (s : Bytes) (v : Value) : Value := .agg #[.int .i64 i, .string (bs s), v]
end Go.Proofs.YtahdekllphehkaaDoor
namespace Go.Proofs.YtahdekllphehkaaDoor
open Go.WL Go.Spec
theorem rv_agg {P : Program} {n : Nat} {w0 : World} {E : List Nat} {ρ : Nat → Value} {L : List Ent} {p b y : Nat} {T Tb : TypeId} {fz : Nat × Nat} {vs : List Value} (hp : p < n) (ha : ρ p = .pointer (some ⟨b, 0, none⟩)) (ti : tinfo P T = some (vs.length, true, y)) (hm : Ent.blk b vs Tb fz ∈ L) : RVal P n w0 E ρ L (.cell p T) (.agg vs.toArray) :=
  ⟨hp, _, ha, fun w hw => run_load_agg ti fun j u hu => by rw [hw.cellAt hm]; simpa using hu⟩
theorem TreeAt.split {w : World} {p : Value} {T : Option Bytes} (h : TreeAt w p T) : (T = none ∧ p = .pointer none) ∨ (∃ b, T = none ∧ p = .pointer (some ⟨b, 0, none⟩) ∧ w.cell? ⟨b, 0, none⟩ = some (.bool false)) ∨
    (∃ b seed, T = some seed ∧ p = .pointer (some ⟨b, 0, none⟩) ∧ ∀ j u, (treeC seed (leavesL seed))[j]? = some u → w.cell? ⟨b, j, none⟩ = some u) := by
  cases T with
  | none =>
    rcases h with h | ⟨b, h1, h2⟩
    · exact .inl ⟨rfl, h⟩
    · exact .inr (.inl ⟨b, rfl, h1, h2⟩)
  | some seed =>
    obtain ⟨b, h1, h2⟩ := h
    exact .inr (.inr ⟨b, seed, rfl, h1, h2⟩)
set_option maxRecDepth 100000 in
set_option maxHeartbeats 1000000 in
theorem sameseal_calls (i1 i2 : Int) (s1 s2 : Bytes) (v1 v2 : Value) (p1 p2 : List Hash) (w : World) (hp : p1.length ≤ 4294967296) (h1 : HsAt w v1 p1) (h2 : HsAt w v2 p2) :
    Calls Tryd.prog 77 #[SealV i1 s1 v1, SealV i2 s2 v2] w fun e w' => e = .returned (.bool (decide (i1 = i2 ∧ s1 = s2 ∧ p1 = p2))) ∧ Cl w [] [] w' := by
  refine calls_of_CW (L := []) Tryd.func77 rfl (Nat.le_of_ble_eq_true rfl) (Cl.refl _) ?_
  refine CW.seq_k fun K1 hK1 => ?_
  refine CW.region ?_
  refine OW.box (cs := [.int .i64 i1, .string (bs s1), v1]) rfl rfl rfl (by (conv => lhs; whnf) <;> rfl) rfl (fun b2 => ?_)
  refine OW.box (cs := [.int .i64 i2, .string (bs s2), v2]) rfl rfl rfl (by (conv => lhs; whnf) <;> rfl) rfl (fun b3 => ?_)
  refine OW.q rfl rfl (yq_assign rfl (by (conv => lhs; whnf) <;> rfl)) ?_
  refine OW.nil ?_
  refine hK1 _ _ ?_
  refine CW.seq_k fun K2 hK2 => ?_
  refine CW.region ?_
  refine OW.q rfl rfl (yq_fieldAddr rfl (by (conv => lhs; whnf) <;> rfl) tf44_0 ti3) ?_
  refine OW.q rfl rfl (yq_load1 rfl (by (conv => lhs; whnf) <;> rfl) ti3 (by repeat' first | exact List.mem_cons_self .. | apply List.mem_cons_of_mem) (by rfl)) ?_
  refine OW.q rfl rfl (yq_fieldAddr rfl (by (conv => lhs; whnf) <;> rfl) tf44_0 ti3) ?_
  refine OW.q rfl rfl (yq_load1 rfl (by (conv => lhs; whnf) <;> rfl) ti3 (by repeat' first | exact List.mem_cons_self .. | apply List.mem_cons_of_mem) (by rfl)) ?_
  refine OW.qb rfl rfl (yq_eql rfl (by (conv => lhs; whnf) <;> rfl) (by (conv => lhs; whnf) <;> rfl)) (fun b9 hb9 => ?_)
  refine OW.q rfl rfl (yq_move rfl (by (conv => lhs; whnf) <;> rfl)) ?_
  apply OW.segAnd 6 [11, 12, 13, 14, 15] 16 hb9
  · intro hb9e
    refine QW.q (by subst hb9e; rfl) rfl (yq_fieldAddr rfl (by (conv => lhs; whnf) <;> rfl) tf44_1 ti9) ?_
    refine QW.q (by subst hb9e; rfl) rfl (yq_load1 rfl (by (conv => lhs; whnf) <;> rfl) ti9 (by repeat' first | exact List.mem_cons_self .. | apply List.mem_cons_of_mem) (by rfl)) ?_
    refine QW.q (by subst hb9e; rfl) rfl (yq_fieldAddr rfl (by (conv => lhs; whnf) <;> rfl) tf44_1 ti9) ?_
    refine QW.q (by subst hb9e; rfl) rfl (yq_load1 rfl (by (conv => lhs; whnf) <;> rfl) ti9 (by repeat' first | exact List.mem_cons_self .. | apply List.mem_cons_of_mem) (by rfl)) ?_
    refine QW.qb (by subst hb9e; rfl) rfl (yq_eql_bs rfl (by (conv => lhs; whnf) <;> rfl) (by (conv => lhs; whnf) <;> rfl)) (fun b15 hb15 => ?_)
    refine QW.q rfl rfl (yq_pick rfl (by (conv => lhs; whnf) <;> rfl) (by subst hb9e; ((conv => lhs; whnf) <;> rfl))) ?_
    exact QW.nil (SegM.mk (any_c (any_c (any_c (any_c (any_c any_n))))) (and_run hb9 hb9e hb15))
  · intro hb9e
    refine QW.skip (by subst hb9e; rfl) rfl ?_
    refine QW.skip (by subst hb9e; rfl) rfl ?_
    refine QW.skip (by subst hb9e; rfl) rfl ?_
    refine QW.skip (by subst hb9e; rfl) rfl ?_
    refine QW.skip (by subst hb9e; rfl) rfl ?_
    refine QW.q rfl rfl (yq_pick rfl (by (conv => lhs; whnf) <;> rfl) (by subst hb9e; ((conv => lhs; whnf) <;> rfl))) ?_
    exact QW.nil (SegM.mk (any_c (any_c (any_c (any_c (any_c any_n))))) (and_skip hb9 hb9e))
  · intro ρ16 b16 hA hb16
    obtain ⟨x11, x12, x13, x14, x15, rfl⟩ := hA
    refine OW.q rfl rfl (yq_move rfl (by (conv => lhs; whnf) <;> rfl)) ?_
    apply OW.segAnd 6 [18, 19, 20, 21, 22] 23 hb16
    · intro hb16e
      refine QW.q (by subst hb16e; rfl) rfl (yq_fieldAddr rfl (by (conv => lhs; whnf) <;> rfl) tf44_2 ti22) ?_
      refine QW.q (by subst hb16e; rfl) rfl (yq_load1 rfl (by (conv => lhs; whnf) <;> rfl) ti22 (by repeat' first | exact List.mem_cons_self .. | apply List.mem_cons_of_mem) (by rfl)) ?_
      refine QW.q (by subst hb16e; rfl) rfl (yq_fieldAddr rfl (by (conv => lhs; whnf) <;> rfl) tf44_2 ti22) ?_
      refine QW.q (by subst hb16e; rfl) rfl (yq_load1 rfl (by (conv => lhs; whnf) <;> rfl) ti22 (by repeat' first | exact List.mem_cons_self .. | apply List.mem_cons_of_mem) (by rfl)) ?_
      refine QW.qb (by subst hb16e; rfl) rfl (yq_call rfl rfl (.cons (by (conv => lhs; whnf) <;> rfl) (.cons (by (conv => lhs; whnf) <;> rfl) .nil)) en43 (fun w hw => same_calls p1 p2 _ _ w hp (h1.mono hw) (h2.mono hw))) (fun b22 hb22 => ?_)
      refine QW.q rfl rfl (yq_pick rfl (by (conv => lhs; whnf) <;> rfl) (by subst hb16e; ((conv => lhs; whnf) <;> rfl))) ?_
      exact QW.nil (SegM.mk (any_c (any_c (any_c (any_c (any_c any_n))))) (and_run hb16 hb16e hb22))
    · intro hb16e
      refine QW.skip (by subst hb16e; rfl) rfl ?_
      refine QW.skip (by subst hb16e; rfl) rfl ?_
      refine QW.skip (by subst hb16e; rfl) rfl ?_
      refine QW.skip (by subst hb16e; rfl) rfl ?_
      refine QW.skip (by subst hb16e; rfl) rfl ?_
      refine QW.q rfl rfl (yq_pick rfl (by (conv => lhs; whnf) <;> rfl) (by subst hb16e; ((conv => lhs; whnf) <;> rfl))) ?_
      exact QW.nil (SegM.mk (any_c (any_c (any_c (any_c (any_c any_n))))) (and_skip hb16 hb16e))
    · intro ρ23 b23 hA hb23
      obtain ⟨x18, x19, x20, x21, x22, rfl⟩ := hA
      refine OW.q rfl rfl (yq_assign rfl (by (conv => lhs; whnf) <;> rfl)) ?_
      refine OW.nil ?_
      refine hK2 _ _ ?_
      refine CW.ret ?_
      -- ret (ret)
      have hbe : b23 = decide (i1 = i2 ∧ s1 = s2 ∧ p1 = p2) := Bool.eq_iff_iff.2 (by rw [hb23, decide_eq_true_iff, and_assoc])
      subst hbe
      exact fin1 (Or.inr rfl) rfl ⟨by decide, (by (conv => lhs; whnf) <;> rfl)⟩ (fun w hw => ⟨rfl, hw.sub (List.nil_sublist _)⟩)
end Go.Proofs.YtahdekllphehkaaDoor
namespace Go.Proofs.YtahdekllphehkaaDoor
open Go.WL Go.Spec
/-- What is told of a signature of a digest by a key of a tree. -/
def verifyC (root d : Hash) (i : Int) (s : Bytes) (p : List Hash) : Int :=
  if i < 0 ∨ 8 ≤ i then 2 else if s.length = 16384 ∧ checkL (keyLeaf (recL s (hb d))) i 8 p root = 0 then 0 else 81
theorem verifyC_bad {root d : Hash} {i : Int} {s : Bytes} {p : List Hash} (h : i < 0 ∨ 8 ≤ i) : verifyC root d i s p = 2 := if_pos h
theorem verifyC_ok {root d : Hash} {i : Int} {s : Bytes} {p : List Hash} (h : ¬ (i < 0 ∨ 8 ≤ i)) (h1 : s.length = 16384) (h2 : checkL (keyLeaf (recL s (hb d))) i 8 p root = 0) : verifyC root d i s p = 0 := by unfold verifyC; rw [if_neg h, if_pos ⟨h1, h2⟩]
theorem verifyC_len {root d : Hash} {i : Int} {s : Bytes} {p : List Hash} (h : ¬ (i < 0 ∨ 8 ≤ i)) (h1 : s.length ≠ 16384) : verifyC root d i s p = 81 := by unfold verifyC; rw [if_neg h, if_neg fun e => h1 e.1]
theorem verifyC_not {root d : Hash} {i : Int} {s : Bytes} {p : List Hash} (h : ¬ (i < 0 ∨ 8 ≤ i)) (h2 : checkL (keyLeaf (recL s (hb d))) i 8 p root ≠ 0) : verifyC root d i s p = 81 := by unfold verifyC; rw [if_neg h, if_neg fun e => h2 e.2]
set_option maxRecDepth 100000 in
set_option maxHeartbeats 1000000 in
theorem verify_calls (root d : Hash) (i : Int) (s : Bytes) (v : Value) (p : List Hash) (w : World) (hs : s.length ≤ 9223372036854775807) (hp : p.length ≤ 4294967296) (hh : HsAt w v p) (hg : GL w) :
    Calls Tryd.prog 78 #[HV root, HV d, SealV i s v] w fun e w' => e = .returned (.int .i64 (verifyC root d i s p)) ∧ Cl w [] [] w' := by
  refine calls_of_CW (L := []) Tryd.func78 rfl (Nat.le_of_ble_eq_true rfl) (Cl.refl _) ?_
  refine CW.seq_k fun K1 hK1 => ?_
  refine CW.region ?_
  refine OW.box rfl rfl rfl (by (conv => lhs; whnf) <;> rfl) (by rfl) (fun b3 => ?_)
  refine OW.box rfl rfl rfl (by (conv => lhs; whnf) <;> rfl) (by rfl) (fun b4 => ?_)
  refine OW.box (cs := [.int .i64 i, .string (bs s), v]) rfl rfl rfl (by (conv => lhs; whnf) <;> rfl) rfl (fun b5 => ?_)
  refine OW.q rfl rfl (yq_assign rfl (by (conv => lhs; whnf) <;> rfl)) ?_
  refine OW.nil ?_
  refine hK1 _ _ ?_
  refine CW.seq_k fun K2 hK2 => ?_
  refine CW.seq_k fun K3 hK3 => ?_
  refine CW.region ?_
  refine OW.q rfl rfl (yq_fieldAddr rfl (by (conv => lhs; whnf) <;> rfl) tf44_0 ti3) ?_
  refine OW.q rfl rfl (yq_load1 rfl (by (conv => lhs; whnf) <;> rfl) ti3 (by repeat' first | exact List.mem_cons_self .. | apply List.mem_cons_of_mem) (by rfl)) ?_
  refine OW.qb rfl rfl (yq_lss rfl (by (conv => lhs; whnf) <;> rfl) (by (conv => lhs; whnf) <;> rfl)) (fun b11 hb11 => ?_)
  refine OW.q rfl rfl (yq_move rfl (by (conv => lhs; whnf) <;> rfl)) ?_
  apply OW.segOr 4 [13, 14, 15] 16 hb11
  · intro hb11e
    refine QW.q (by subst hb11e; rfl) rfl (yq_fieldAddr rfl (by (conv => lhs; whnf) <;> rfl) tf44_0 ti3) ?_
    refine QW.q (by subst hb11e; rfl) rfl (yq_load1 rfl (by (conv => lhs; whnf) <;> rfl) ti3 (by repeat' first | exact List.mem_cons_self .. | apply List.mem_cons_of_mem) (by rfl)) ?_
    refine QW.qb (by subst hb11e; rfl) rfl (yq_geq rfl (by (conv => lhs; whnf) <;> rfl) (by (conv => lhs; whnf) <;> rfl)) (fun b15 hb15 => ?_)
    refine QW.q rfl rfl (yq_pick rfl (by (conv => lhs; whnf) <;> rfl) (by subst hb11e; ((conv => lhs; whnf) <;> rfl))) ?_
    exact QW.nil (SegM.mk (any_c (any_c (any_c any_n))) (or_run hb11 hb11e hb15))
  · intro hb11e
    refine QW.skip (by subst hb11e; rfl) rfl ?_
    refine QW.skip (by subst hb11e; rfl) rfl ?_
    refine QW.skip (by subst hb11e; rfl) rfl ?_
    refine QW.q rfl rfl (yq_pick rfl (by (conv => lhs; whnf) <;> rfl) (by subst hb11e; ((conv => lhs; whnf) <;> rfl))) ?_
    exact QW.nil (SegM.mk (any_c (any_c (any_c any_n))) (or_skip hb11 hb11e))
  · intro ρ16 b16 hA hb16
    obtain ⟨x13, x14, x15, rfl⟩ := hA
    refine OW.nil ?_
    refine hK3 _ _ ?_
    refine CW.condq (by (conv => lhs; whnf) <;> rfl) hb16 (fun hc0 => ?_) (fun hc0 => ?_)
    · refine CW.seq_k fun K4 hK4 => ?_
      refine CW.region ?_
      refine OW.q rfl rfl (yq_assign rfl (by (conv => lhs; whnf) <;> rfl)) ?_
      refine OW.nil ?_
      refine hK4 _ _ ?_
      refine CW.ret ?_
      refine then_ret ?_
      -- ret (ret)
      rw [verifyC_bad (by omega)]
      exact fin1 (Or.inr rfl) rfl ⟨by decide, (by (conv => lhs; whnf) <;> rfl)⟩ (fun w hw => ⟨rfl, hw.sub (List.nil_sublist _)⟩)
    · refine CW.skip ?_
      refine hK2 _ _ ?_
      refine CW.seq_k fun K5 hK5 => ?_
      refine CW.region ?_
      rcases Decidable.em (s.length ≠ 16384) with hl | hl
      · refine OW.q rfl rfl (yq_fieldAddr rfl (by (conv => lhs; whnf) <;> rfl) tf44_1 ti9) ?_
        refine OW.q rfl rfl (yq_load1 rfl (by (conv => lhs; whnf) <;> rfl) ti9 (by repeat' first | exact List.mem_cons_self .. | apply List.mem_cons_of_mem) (by rfl)) ?_
        refine OW.q rfl rfl (yq_loadH rfl (by (conv => lhs; whnf) <;> rfl) ti25 (by repeat' first | exact List.mem_cons_self .. | apply List.mem_cons_of_mem)) ?_
        refine OW.q rfl rfl (yq_call rfl rfl (.cons (by (conv => lhs; whnf) <;> rfl) (.cons (by (conv => lhs; whnf) <;> rfl) .nil)) en56 (fun w hw => by have := recover_calls s d w (by omega) (Cl_gl0 hw hg); rwa [recV_bad hl] at this)) ?_
        refine OW.q rfl rfl (yq_move rfl (by (conv => lhs; whnf) <;> rfl)) ?_
        refine OW.q rfl rfl (yq_extract rfl (by (conv => lhs; whnf) <;> rfl) rfl) ?_
        refine OW.q rfl rfl (yq_extract rfl (by (conv => lhs; whnf) <;> rfl) rfl) ?_
        refine OW.alloc rfl rfl rfl tz25 (fun b7 => ?_)
        refine OW.storeH rfl rfl rfl (by (conv => lhs; whnf) <;> rfl) (by (conv => lhs; whnf) <;> rfl) ti25 (by repeat' first | exact Put.head | apply Put.tail) (hc_length _) ?_
        refine OW.q rfl rfl (yq_assign rfl (by (conv => lhs; whnf) <;> rfl)) ?_
        refine OW.nil ?_
        refine hK5 _ _ ?_
        refine CW.seq_k fun K6 hK6 => ?_
        refine CW.seq_k fun K7 hK7 => ?_
        refine CW.region ?_
        refine OW.q rfl rfl (yq_move rfl (by (conv => lhs; whnf) <;> rfl)) ?_
        refine OW.q rfl rfl ((yq_neq rfl (by (conv => lhs; whnf) <;> rfl) (by (conv => lhs; whnf) <;> rfl)).to (v' := .bool true) rfl) ?_
        refine OW.q rfl rfl (yq_move rfl (by (conv => lhs; whnf) <;> rfl)) ?_
        refine OW.skip rfl rfl ?_
        refine OW.skip rfl rfl ?_
        refine OW.skip rfl rfl ?_
        refine OW.skip rfl rfl ?_
        refine OW.skip rfl rfl ?_
        refine OW.skip rfl rfl ?_
        refine OW.skip rfl rfl ?_
        refine OW.skip rfl rfl ?_
        refine OW.q rfl rfl (yq_pick rfl (by (conv => lhs; whnf) <;> rfl) (by (conv => lhs; whnf) <;> rfl)) ?_
        refine OW.nil ?_
        refine hK7 _ _ ?_
        refine CW.cond_t (by (conv => lhs; whnf) <;> rfl) ?_
        refine CW.seq_k fun K8 hK8 => ?_
        refine CW.region ?_
        refine OW.q rfl rfl (yq_assign rfl (by (conv => lhs; whnf) <;> rfl)) ?_
        refine OW.nil ?_
        refine hK8 _ _ ?_
        refine CW.ret ?_
        refine then_ret ?_
        -- ret (ret)
        rw [verifyC_len (by omega) hl]
        exact fin1 (Or.inr rfl) rfl ⟨by decide, (by (conv => lhs; whnf) <;> rfl)⟩ (fun w hw => ⟨rfl, hw.sub (List.nil_sublist _)⟩)
      · have hl : s.length = 16384 := by omega
        refine OW.q rfl rfl (yq_fieldAddr rfl (by (conv => lhs; whnf) <;> rfl) tf44_1 ti9) ?_
        refine OW.q rfl rfl (yq_load1 rfl (by (conv => lhs; whnf) <;> rfl) ti9 (by repeat' first | exact List.mem_cons_self .. | apply List.mem_cons_of_mem) (by rfl)) ?_
        refine OW.q rfl rfl (yq_loadH rfl (by (conv => lhs; whnf) <;> rfl) ti25 (by repeat' first | exact List.mem_cons_self .. | apply List.mem_cons_of_mem)) ?_
        refine OW.q rfl rfl (yq_call rfl rfl (.cons (by (conv => lhs; whnf) <;> rfl) (.cons (by (conv => lhs; whnf) <;> rfl) .nil)) en56 (fun w hw => by have := recover_calls s d w (by omega) (Cl_gl0 hw hg); rwa [recV_ok hl] at this)) ?_
        refine OW.q rfl rfl (yq_move rfl (by (conv => lhs; whnf) <;> rfl)) ?_
        refine OW.q rfl rfl (yq_extract rfl (by (conv => lhs; whnf) <;> rfl) rfl) ?_
        refine OW.q rfl rfl (yq_extract rfl (by (conv => lhs; whnf) <;> rfl) rfl) ?_
        refine OW.alloc rfl rfl rfl tz25 (fun b7 => ?_)
        refine OW.storeH rfl rfl rfl (by (conv => lhs; whnf) <;> rfl) (by (conv => lhs; whnf) <;> rfl) ti25 (by repeat' first | exact Put.head | apply Put.tail) (hc_length _) ?_
        refine OW.q rfl rfl (yq_assign rfl (by (conv => lhs; whnf) <;> rfl)) ?_
        refine OW.nil ?_
        refine hK5 _ _ ?_
        refine CW.seq_k fun K9 hK9 => ?_
        refine CW.seq_k fun K10 hK10 => ?_
        refine CW.region ?_
        refine OW.q rfl rfl (yq_move rfl (by (conv => lhs; whnf) <;> rfl)) ?_
        refine OW.q rfl rfl ((yq_neq rfl (by (conv => lhs; whnf) <;> rfl) (by (conv => lhs; whnf) <;> rfl)).to (v' := .bool false) rfl) ?_
        refine OW.q rfl rfl (yq_move rfl (by (conv => lhs; whnf) <;> rfl)) ?_
        refine OW.q rfl rfl (yq_loadH rfl (by (conv => lhs; whnf) <;> rfl) ti25 (by repeat' first | exact List.mem_cons_self .. | apply List.mem_cons_of_mem)) ?_
        refine OW.q rfl rfl (yq_fieldAddr rfl (by (conv => lhs; whnf) <;> rfl) tf44_0 ti3) ?_
        refine OW.q rfl rfl (yq_load1 rfl (by (conv => lhs; whnf) <;> rfl) ti3 (by repeat' first | exact List.mem_cons_self .. | apply List.mem_cons_of_mem) (by rfl)) ?_
        refine OW.q rfl rfl (yq_fieldAddr rfl (by (conv => lhs; whnf) <;> rfl) tf44_2 ti22) ?_
        refine OW.q rfl rfl (yq_load1 rfl (by (conv => lhs; whnf) <;> rfl) ti22 (by repeat' first | exact List.mem_cons_self .. | apply List.mem_cons_of_mem) (by rfl)) ?_
        refine OW.q rfl rfl (yq_loadH rfl (by (conv => lhs; whnf) <;> rfl) ti25 (by repeat' first | exact List.mem_cons_self .. | apply List.mem_cons_of_mem)) ?_
        refine OW.q rfl rfl (yq_call rfl rfl (.cons (by (conv => lhs; whnf) <;> rfl) ( .cons (by (conv => lhs; whnf) <;> rfl) ( .cons (by (conv => lhs; whnf) <;> rfl) ( .cons (by (conv => lhs; whnf) <;> rfl) ( .cons (by (conv => lhs; whnf) <;> rfl) .nil))))) en49 (fun w hw => check_calls _ root i 8 p _ w hp (hh.mono hw) (Cl_gl0 hw hg))) ?_
        refine OW.qb rfl rfl (yq_neq rfl (by (conv => lhs; whnf) <;> rfl) (by (conv => lhs; whnf) <;> rfl)) (fun b34 hb34 => ?_)
        refine OW.q rfl rfl (yq_pick rfl (by (conv => lhs; whnf) <;> rfl) (by (conv => lhs; whnf) <;> rfl)) ?_
        refine OW.nil ?_
        refine hK10 _ _ ?_
        refine CW.condq (by (conv => lhs; whnf) <;> rfl) hb34 (fun hc1 => ?_) (fun hc1 => ?_)
        · refine CW.seq_k fun K11 hK11 => ?_
          refine CW.region ?_
          refine OW.q rfl rfl (yq_assign rfl (by (conv => lhs; whnf) <;> rfl)) ?_
          refine OW.nil ?_
          refine hK11 _ _ ?_
          refine CW.ret ?_
          refine then_ret ?_
          -- ret (ret)
          rw [verifyC_not (by omega) hc1]
          exact fin1 (Or.inr rfl) rfl ⟨by decide, (by (conv => lhs; whnf) <;> rfl)⟩ (fun w hw => ⟨rfl, hw.sub (List.nil_sublist _)⟩)
        · refine CW.skip ?_
          refine hK9 _ _ ?_
          refine CW.seq_k fun K12 hK12 => ?_
          refine CW.region ?_
          refine OW.q rfl rfl (yq_assign rfl (by (conv => lhs; whnf) <;> rfl)) ?_
          refine OW.nil ?_
          refine hK12 _ _ ?_
          refine CW.ret ?_
          -- ret (ret)
          rw [verifyC_ok (by omega) hl (by omega)]
          exact fin1 (Or.inr rfl) rfl ⟨by decide, (by (conv => lhs; whnf) <;> rfl)⟩ (fun w hw => ⟨rfl, hw.sub (List.nil_sublist _)⟩)
set_option maxRecDepth 100000 in
set_option maxHeartbeats 1000000 in
theorem refverify_calls (root d : Hash) (i : Int) (s : Bytes) (v : Value) (p : List Hash) (w : World) (hs : s.length ≤ 9223372036854775807) (hp : p.length ≤ 4294967296) (hh : HsAt w v p) :
    Calls Tryd.prog 79 #[HV root, HV d, SealV i s v] w fun e w' => e = .returned (.int .i64 (verifyC root d i s p)) ∧ Cl w [] [] w' := by
  refine calls_of_CW (L := []) Tryd.func79 rfl (Nat.le_of_ble_eq_true rfl) (Cl.refl _) ?_
  refine CW.seq_k fun K1 hK1 => ?_
  refine CW.region ?_
  refine OW.box rfl rfl rfl (by (conv => lhs; whnf) <;> rfl) (by rfl) (fun b3 => ?_)
  refine OW.box rfl rfl rfl (by (conv => lhs; whnf) <;> rfl) (by rfl) (fun b4 => ?_)
  refine OW.box (cs := [.int .i64 i, .string (bs s), v]) rfl rfl rfl (by (conv => lhs; whnf) <;> rfl) rfl (fun b5 => ?_)
  refine OW.q rfl rfl (yq_assign rfl (by (conv => lhs; whnf) <;> rfl)) ?_
  refine OW.nil ?_
  refine hK1 _ _ ?_
  refine CW.seq_k fun K2 hK2 => ?_
  refine CW.seq_k fun K3 hK3 => ?_
  refine CW.region ?_
  refine OW.q rfl rfl (yq_fieldAddr rfl (by (conv => lhs; whnf) <;> rfl) tf44_0 ti3) ?_
  refine OW.q rfl rfl (yq_load1 rfl (by (conv => lhs; whnf) <;> rfl) ti3 (by repeat' first | exact List.mem_cons_self .. | apply List.mem_cons_of_mem) (by rfl)) ?_
  refine OW.qb rfl rfl (yq_lss rfl (by (conv => lhs; whnf) <;> rfl) (by (conv => lhs; whnf) <;> rfl)) (fun b11 hb11 => ?_)
  refine OW.q rfl rfl (yq_move rfl (by (conv => lhs; whnf) <;> rfl)) ?_
  apply OW.segOr 4 [13, 14, 15] 16 hb11
  · intro hb11e
    refine QW.q (by subst hb11e; rfl) rfl (yq_fieldAddr rfl (by (conv => lhs; whnf) <;> rfl) tf44_0 ti3) ?_
    refine QW.q (by subst hb11e; rfl) rfl (yq_load1 rfl (by (conv => lhs; whnf) <;> rfl) ti3 (by repeat' first | exact List.mem_cons_self .. | apply List.mem_cons_of_mem) (by rfl)) ?_
    refine QW.qb (by subst hb11e; rfl) rfl (yq_gtr rfl (by (conv => lhs; whnf) <;> rfl) (by (conv => lhs; whnf) <;> rfl)) (fun b15 hb15 => ?_)
    refine QW.q rfl rfl (yq_pick rfl (by (conv => lhs; whnf) <;> rfl) (by subst hb11e; ((conv => lhs; whnf) <;> rfl))) ?_
    exact QW.nil (SegM.mk (any_c (any_c (any_c any_n))) (or_run hb11 hb11e hb15))
  · intro hb11e
    refine QW.skip (by subst hb11e; rfl) rfl ?_
    refine QW.skip (by subst hb11e; rfl) rfl ?_
    refine QW.skip (by subst hb11e; rfl) rfl ?_
    refine QW.q rfl rfl (yq_pick rfl (by (conv => lhs; whnf) <;> rfl) (by subst hb11e; ((conv => lhs; whnf) <;> rfl))) ?_
    exact QW.nil (SegM.mk (any_c (any_c (any_c any_n))) (or_skip hb11 hb11e))
  · intro ρ16 b16 hA hb16
    obtain ⟨x13, x14, x15, rfl⟩ := hA
    refine OW.nil ?_
    refine hK3 _ _ ?_
    refine CW.condq (by (conv => lhs; whnf) <;> rfl) hb16 (fun hc0 => ?_) (fun hc0 => ?_)
    · refine CW.seq_k fun K4 hK4 => ?_
      refine CW.region ?_
      refine OW.q rfl rfl (yq_assign rfl (by (conv => lhs; whnf) <;> rfl)) ?_
      refine OW.nil ?_
      refine hK4 _ _ ?_
      refine CW.ret ?_
      refine then_ret ?_
      -- ret (ret)
      rw [verifyC_bad (by omega)]
      exact fin1 (Or.inr rfl) rfl ⟨by decide, (by (conv => lhs; whnf) <;> rfl)⟩ (fun w hw => ⟨rfl, hw.sub (List.nil_sublist _)⟩)
    · refine CW.skip ?_
      refine hK2 _ _ ?_
      refine CW.seq_k fun K5 hK5 => ?_
      refine CW.region ?_
      rcases Decidable.em (s.length ≠ 16384) with hl | hl
      · refine OW.q rfl rfl (yq_fieldAddr rfl (by (conv => lhs; whnf) <;> rfl) tf44_1 ti9) ?_
        refine OW.q rfl rfl (yq_load1 rfl (by (conv => lhs; whnf) <;> rfl) ti9 (by repeat' first | exact List.mem_cons_self .. | apply List.mem_cons_of_mem) (by rfl)) ?_
        refine OW.q rfl rfl (yq_loadH rfl (by (conv => lhs; whnf) <;> rfl) ti25 (by repeat' first | exact List.mem_cons_self .. | apply List.mem_cons_of_mem)) ?_
        refine OW.q rfl rfl (yq_call rfl rfl (.cons (by (conv => lhs; whnf) <;> rfl) (.cons (by (conv => lhs; whnf) <;> rfl) .nil)) en57 (fun w hw => by have := refrecover_calls s d w (by omega); rwa [recV_bad hl] at this)) ?_
        refine OW.q rfl rfl (yq_move rfl (by (conv => lhs; whnf) <;> rfl)) ?_
        refine OW.q rfl rfl (yq_extract rfl (by (conv => lhs; whnf) <;> rfl) rfl) ?_
        refine OW.q rfl rfl (yq_extract rfl (by (conv => lhs; whnf) <;> rfl) rfl) ?_
        refine OW.alloc rfl rfl rfl tz25 (fun b7 => ?_)
        refine OW.storeH rfl rfl rfl (by (conv => lhs; whnf) <;> rfl) (by (conv => lhs; whnf) <;> rfl) ti25 (by repeat' first | exact Put.head | apply Put.tail) (hc_length _) ?_
        refine OW.q rfl rfl (yq_assign rfl (by (conv => lhs; whnf) <;> rfl)) ?_
        refine OW.nil ?_
        refine hK5 _ _ ?_
        refine CW.seq_k fun K6 hK6 => ?_
        refine CW.seq_k fun K7 hK7 => ?_
        refine CW.region ?_
        refine OW.q rfl rfl (yq_move rfl (by (conv => lhs; whnf) <;> rfl)) ?_
        refine OW.q rfl rfl ((yq_eql rfl (by (conv => lhs; whnf) <;> rfl) (by (conv => lhs; whnf) <;> rfl)).to (v' := .bool false) rfl) ?_
        refine OW.q rfl rfl (yq_move rfl (by (conv => lhs; whnf) <;> rfl)) ?_
        refine OW.skip rfl rfl ?_
        refine OW.skip rfl rfl ?_
        refine OW.skip rfl rfl ?_
        refine OW.skip rfl rfl ?_
        refine OW.skip rfl rfl ?_
        refine OW.skip rfl rfl ?_
        refine OW.skip rfl rfl ?_
        refine OW.skip rfl rfl ?_
        refine OW.q rfl rfl (yq_pick rfl (by (conv => lhs; whnf) <;> rfl) (by (conv => lhs; whnf) <;> rfl)) ?_
        refine OW.nil ?_
        refine hK7 _ _ ?_
        refine CW.cond_f (by (conv => lhs; whnf) <;> rfl) ?_
        refine CW.skip ?_
        refine hK6 _ _ ?_
        refine CW.seq_k fun K8 hK8 => ?_
        refine CW.region ?_
        refine OW.q rfl rfl (yq_assign rfl (by (conv => lhs; whnf) <;> rfl)) ?_
        refine OW.nil ?_
        refine hK8 _ _ ?_
        refine CW.ret ?_
        -- ret (ret)
        rw [verifyC_len (by omega) hl]
        exact fin1 (Or.inr rfl) rfl ⟨by decide, (by (conv => lhs; whnf) <;> rfl)⟩ (fun w hw => ⟨rfl, hw.sub (List.nil_sublist _)⟩)
      · have hl : s.length = 16384 := by omega
        refine OW.q rfl rfl (yq_fieldAddr rfl (by (conv => lhs; whnf) <;> rfl) tf44_1 ti9) ?_
        refine OW.q rfl rfl (yq_load1 rfl (by (conv => lhs; whnf) <;> rfl) ti9 (by repeat' first | exact List.mem_cons_self .. | apply List.mem_cons_of_mem) (by rfl)) ?_
        refine OW.q rfl rfl (yq_loadH rfl (by (conv => lhs; whnf) <;> rfl) ti25 (by repeat' first | exact List.mem_cons_self .. | apply List.mem_cons_of_mem)) ?_
        refine OW.q rfl rfl (yq_call rfl rfl (.cons (by (conv => lhs; whnf) <;> rfl) (.cons (by (conv => lhs; whnf) <;> rfl) .nil)) en57 (fun w hw => by have := refrecover_calls s d w (by omega); rwa [recV_ok hl] at this)) ?_
        refine OW.q rfl rfl (yq_move rfl (by (conv => lhs; whnf) <;> rfl)) ?_
        refine OW.q rfl rfl (yq_extract rfl (by (conv => lhs; whnf) <;> rfl) rfl) ?_
        refine OW.q rfl rfl (yq_extract rfl (by (conv => lhs; whnf) <;> rfl) rfl) ?_
        refine OW.alloc rfl rfl rfl tz25 (fun b7 => ?_)
        refine OW.storeH rfl rfl rfl (by (conv => lhs; whnf) <;> rfl) (by (conv => lhs; whnf) <;> rfl) ti25 (by repeat' first | exact Put.head | apply Put.tail) (hc_length _) ?_
        refine OW.q rfl rfl (yq_assign rfl (by (conv => lhs; whnf) <;> rfl)) ?_
        refine OW.nil ?_
        refine hK5 _ _ ?_
        refine CW.seq_k fun K9 hK9 => ?_
        refine CW.seq_k fun K10 hK10 => ?_
        refine CW.region ?_
        refine OW.q rfl rfl (yq_move rfl (by (conv => lhs; whnf) <;> rfl)) ?_
        refine OW.q rfl rfl ((yq_eql rfl (by (conv => lhs; whnf) <;> rfl) (by (conv => lhs; whnf) <;> rfl)).to (v' := .bool true) rfl) ?_
        refine OW.q rfl rfl (yq_move rfl (by (conv => lhs; whnf) <;> rfl)) ?_
        refine OW.q rfl rfl (yq_loadH rfl (by (conv => lhs; whnf) <;> rfl) ti25 (by repeat' first | exact List.mem_cons_self .. | apply List.mem_cons_of_mem)) ?_
        refine OW.q rfl rfl (yq_fieldAddr rfl (by (conv => lhs; whnf) <;> rfl) tf44_0 ti3) ?_
        refine OW.q rfl rfl (yq_load1 rfl (by (conv => lhs; whnf) <;> rfl) ti3 (by repeat' first | exact List.mem_cons_self .. | apply List.mem_cons_of_mem) (by rfl)) ?_
        refine OW.q rfl rfl (yq_fieldAddr rfl (by (conv => lhs; whnf) <;> rfl) tf44_2 ti22) ?_
        refine OW.q rfl rfl (yq_load1 rfl (by (conv => lhs; whnf) <;> rfl) ti22 (by repeat' first | exact List.mem_cons_self .. | apply List.mem_cons_of_mem) (by rfl)) ?_
        refine OW.q rfl rfl (yq_loadH rfl (by (conv => lhs; whnf) <;> rfl) ti25 (by repeat' first | exact List.mem_cons_self .. | apply List.mem_cons_of_mem)) ?_
        refine OW.q rfl rfl (yq_call rfl rfl (.cons (by (conv => lhs; whnf) <;> rfl) ( .cons (by (conv => lhs; whnf) <;> rfl) ( .cons (by (conv => lhs; whnf) <;> rfl) ( .cons (by (conv => lhs; whnf) <;> rfl) ( .cons (by (conv => lhs; whnf) <;> rfl) .nil))))) en50 (fun w hw => rcheck_calls _ root i 8 p _ w hp (hh.mono hw))) ?_
        refine OW.qb rfl rfl (yq_eql rfl (by (conv => lhs; whnf) <;> rfl) (by (conv => lhs; whnf) <;> rfl)) (fun b34 hb34 => ?_)
        refine OW.q rfl rfl (yq_pick rfl (by (conv => lhs; whnf) <;> rfl) (by (conv => lhs; whnf) <;> rfl)) ?_
        refine OW.nil ?_
        refine hK10 _ _ ?_
        refine CW.condq (by (conv => lhs; whnf) <;> rfl) hb34 (fun hc1 => ?_) (fun hc1 => ?_)
        · refine CW.seq_k fun K11 hK11 => ?_
          refine CW.region ?_
          refine OW.q rfl rfl (yq_assign rfl (by (conv => lhs; whnf) <;> rfl)) ?_
          refine OW.nil ?_
          refine hK11 _ _ ?_
          refine CW.ret ?_
          refine then_ret ?_
          -- ret (ret)
          rw [verifyC_ok (by omega) hl hc1]
          exact fin1 (Or.inr rfl) rfl ⟨by decide, (by (conv => lhs; whnf) <;> rfl)⟩ (fun w hw => ⟨rfl, hw.sub (List.nil_sublist _)⟩)
        · refine CW.skip ?_
          refine hK9 _ _ ?_
          refine CW.seq_k fun K12 hK12 => ?_
          refine CW.region ?_
          refine OW.q rfl rfl (yq_assign rfl (by (conv => lhs; whnf) <;> rfl)) ?_
          refine OW.nil ?_
          refine hK12 _ _ ?_
          refine CW.ret ?_
          -- ret (ret)
          rw [verifyC_not (by omega) hc1]
          exact fin1 (Or.inr rfl) rfl ⟨by decide, (by (conv => lhs; whnf) <;> rfl)⟩ (fun w hw => ⟨rfl, hw.sub (List.nil_sublist _)⟩)
end Go.Proofs.YtahdekllphehkaaDoor
namespace Go.Proofs.YtahdekllphehkaaDoor
open Go.WL Go.Spec
def dOne : Hash := hashOf ([1] ++ List.replicate 31 0) rfl
attribute [irreducible] dOne
end Go.Proofs.YtahdekllphehkaaDoor
namespace Go.Proofs.YtahdekllphehkaaDoor
open Go.WL Go.Spec
end Go.Proofs.YtahdekllphehkaaDoor
namespace Go.Proofs.YtahdekllphehkaaDoor
open Go.WL Go.Spec
end Go.Proofs.YtahdekllphehkaaDoor
namespace Go.Proofs.YtahdekllphehkaaDoor
open Go.WL Go.Spec
theorem spl_set (l : Bytes) (k : Nat) (x : UInt8) (h : k < l.length) : spl (bc l) k [U8 x] = bc (l.set k x) := by
  unfold spl
  rw [List.set_eq_take_append_cons_drop, if_pos h]
  simp only [bc, List.map_append, List.map_cons, List.map_take, List.map_drop, List.length_singleton, List.append_assoc, List.singleton_append, List.cons_append, List.nil_append]
end Go.Proofs.YtahdekllphehkaaDoor
