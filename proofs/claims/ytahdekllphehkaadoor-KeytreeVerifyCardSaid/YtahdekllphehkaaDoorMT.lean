/- Trees of keys; no statement of the seat is proved here. -/
import Derived.Test.YtahdekllphehkaaDoorMQ
import Derived.Test.YtahdekllphehkaaDoorMP
set_option linter.unusedVariables false
set_option linter.unusedSimpArgs false
namespace Go.Proofs.YtahdekllphehkaaDoor
open Go.WL Go.Spec

def keyH (seed : Bytes) (i : Nat) : Hash := keyLeaf (publicL seed i)
def leavesL (seed : Bytes) : List Hash := (List.range 8).map (keyH seed)
theorem leavesL_length (seed : Bytes) : (leavesL seed).length = 8 := by simp [leavesL]
theorem leavesL_fill (seed : Bytes) : fillL (keyH seed) 8 8 = leavesL seed := by rw [fillL_all]; rfl
/-- The cells of a tree of keys. -/
def treeC (seed : Bytes) (l : List Hash) : List Value := [.bool true, .string (bs seed)] ++ l.flatMap hc
theorem treeC_length (seed : Bytes) (l : List Hash) : (treeC seed l).length = 2 + 32 * l.length := by unfold treeC; rw [List.length_append, flat_length]; rfl
theorem spl_tree (seed : Bytes) (l : List Hash) (k : Nat) (h : k < l.length) (x : Hash) : spl (treeC seed l) (2 + k * 32) (hc x) = treeC seed (l.set k x) := by
  unfold treeC
  rw [← spl_flat h x]
  unfold spl
  rw [List.take_append, List.drop_append]
  simp only [List.length_cons, List.length_nil]
  rw [show 2 + k * 32 - (0 + 1 + 1) = k * 32 by omega, show 2 + k * 32 + (hc x).length - (0 + 1 + 1) = k * 32 + (hc x).length by omega, List.take_of_length_le (by simp only [List.length_cons, List.length_nil]; omega), List.drop_eq_nil_of_le (by simp only [List.length_cons, List.length_nil]; omega)]
  simp only [List.append_assoc, List.nil_append]
/-- A pointer to a tree of a seed, or to none. -/
def TreeAt (w : World) (p : Value) : Option Bytes → Prop
  | none => p = .pointer none ∨ ∃ b, p = .pointer (some ⟨b, 0, none⟩) ∧ w.cell? ⟨b, 0, none⟩ = some (.bool false)
  | some seed => ∃ b, p = .pointer (some ⟨b, 0, none⟩) ∧ ∀ j u, (treeC seed (leavesL seed))[j]? = some u → w.cell? ⟨b, j, none⟩ = some u
theorem TreeAt.mono {w w' : World} {p : Value} {T : Option Bytes} {L' : List Ent} (h : TreeAt w p T) (hc' : Cl w [] L' w') : TreeAt w' p T := by
  cases T with
  | none =>
    rcases h with h | ⟨b, rfl, h⟩
    · exact .inl h
    · exact .inr ⟨b, rfl, hc'.keep h⟩
  | some seed =>
    obtain ⟨b, rfl, h⟩ := h
    exact ⟨b, rfl, fun j u hu => hc'.keep (h j u hu)⟩
theorem tree_hs {w : World} {b : Nat} {seed : Bytes} (h : ∀ j u, (treeC seed (leavesL seed))[j]? = some u → w.cell? ⟨b, j, none⟩ = some u) : HsAt w (.slice (some ⟨b, 2, none⟩) 8 8) (leavesL seed) := by
  refine ⟨some ⟨b, 2, none⟩, 8, by rw [leavesL_length], by rw [leavesL_length]; decide, .inr ⟨b, 2, rfl, fun j u hu => h (2 + j) u ?_⟩⟩
  unfold treeC
  rw [List.getElem?_append_right (by simp only [List.length_cons, List.length_nil]; omega)]
  simp only [List.length_cons, List.length_nil]
  rw [show 2 + j - (0 + 1 + 1) = j by omega]; exact hu
theorem tree_true {w : World} {b : Nat} {seed : Bytes} (h : ∀ j u, (treeC seed (leavesL seed))[j]? = some u → w.cell? ⟨b, j, none⟩ = some u) : w.cell? ⟨b, 0, none⟩ = some (.bool true) := h 0 _ rfl
theorem tree_seed {w : World} {b : Nat} {seed : Bytes} (h : ∀ j u, (treeC seed (leavesL seed))[j]? = some u → w.cell? ⟨b, j, none⟩ = some u) : w.cell? ⟨b, 1, none⟩ = some (.string (bs seed)) := h 1 _ rfl
/-- The root of a tree, or none. -/
def troot : Option Bytes → Hash
  | none => zeroHash
  | some seed => rootL (leavesL seed)
/-- What a key of a tree signs: the number, the signature, the path, and what is told. -/
def tsign (T : Option Bytes) (i : Int) (d : Bytes) : Int × Bytes × List Hash × Int :=
  match T with
  | none => (0, [], [], 1)
  | some seed => if i < 0 ∨ 8 ≤ i then (0, [], [], 2) else (i, signB seed i.toNat d, pathL (leavesL seed) i.toNat, 0)
def SealV (i : Int) (s : Bytes) (v : Value) : Value := .agg #[.int .i64 i, .string (bs s), v]
def OutSeal (v : Value) (L1 : List Ent) (t : Int × Bytes × List Hash × Int) : Prop :=
  ∃ u, v = .tuple #[SealV t.1 t.2.1 u, .int .i64 t.2.2.2] ∧ OutHs u L1 t.2.2.1
theorem tsign_none (i : Int) (d : Bytes) : tsign none i d = (0, [], [], 1) := rfl
theorem tsign_bad {seed : Bytes} {i : Int} {d : Bytes} (h : i < 0 ∨ 8 ≤ i) : tsign (some seed) i d = (0, [], [], 2) := if_pos h
theorem tsign_ok {seed : Bytes} {i : Int} {d : Bytes} (h : ¬ (i < 0 ∨ 8 ≤ i)) : tsign (some seed) i d = (i, signB seed i.toNat d, pathL (leavesL seed) i.toNat, 0) := if_neg h
end Go.Proofs.YtahdekllphehkaaDoor

namespace Go.Proofs.YtahdekllphehkaaDoor
open Go.WL Go.Spec

theorem rv_agg {P : Program} {n : Nat} {w0 : World} {E : List Nat} {ρ : Nat → Value} {L : List Ent} {p b y : Nat} {T Tb : TypeId} {fz : Nat × Nat} {vs : List Value} (hp : p < n) (ha : ρ p = .pointer (some ⟨b, 0, none⟩)) (ti : tinfo P T = some (vs.length, true, y)) (hm : Ent.blk b vs Tb fz ∈ L) : RVal P n w0 E ρ L (.cell p T) (.agg vs.toArray) :=
  ⟨hp, _, ha, fun w hw => run_load_agg ti fun j u hu => by rw [hw.cellAt hm]; simpa using hu⟩
theorem TreeAt.split {w : World} {p : Value} {T : Option Bytes} (h : TreeAt w p T) : (T = none ∧ p = .pointer none) ∨ (∃ b, T = none ∧ p = .pointer (some ⟨b, 0, none⟩) ∧ w.cell? ⟨b, 0, none⟩ = some (.bool false)) ∨
    (∃ b seed, T = some seed ∧ p = .pointer (some ⟨b, 0, none⟩) ∧ ∀ j u, (treeC seed (leavesL seed))[j]? = some u → w.cell? ⟨b, j, none⟩ = some u) := by
  cases T with
  | none =>
    rcases h with h | ⟨b, h1, h2⟩
    · exact .inl ⟨rfl, h⟩
    · exact .inr (.inl ⟨b, rfl, h1, h2⟩)
  | some seed =>
    obtain ⟨b, h1, h2⟩ := h
    exact .inr (.inr ⟨b, seed, rfl, h1, h2⟩)
theorem tree_blk {w0 w : World} {E : List Nat} {L : List Ent} {b : Nat} {seed : Bytes} {T : TypeId} {fz : Nat × Nat} (hw : Cl w0 E L w) (hm : Ent.blk b (treeC seed (leavesL seed)) T fz ∈ L) : TreeAt w (.pointer (some ⟨b, 0, none⟩)) (some seed) :=
  ⟨b, rfl, fun j u hu => by rw [hw.cellAt hm]; exact hu⟩

set_option maxRecDepth 100000 in
set_option maxHeartbeats 1000000 in
theorem tnew_calls (s : Bytes) (w : World) (hs : s.length ≤ 4294967200) (hg : GL w) :
    Calls Tryd.prog 72 #[.string (bs s)] w fun e w' => ∃ v L1, e = .returned v ∧ Cl w [] L1 w' ∧ ∃ b, v = .pointer (some ⟨b, 0, none⟩) ∧ L1 = [.blk b (treeC s (leavesL s)) 112 (0, 0)] := by
  refine calls_of_CW (L := []) Tryd.func72 rfl (Nat.le_of_ble_eq_true rfl) (Cl.refl _) ?_
  refine CW.seq_k fun K1 hK1 => ?_
  refine CW.region ?_
  refine OW.q rfl rfl (yq_assign rfl (by (conv => lhs; whnf) <;> rfl)) ?_
  refine OW.nil ?_
  refine hK1 _ _ ?_
  refine CW.seq_k fun K2 hK2 => ?_
  refine CW.region ?_
  refine OW.q rfl rfl (yq_move rfl (by (conv => lhs; whnf) <;> rfl)) ?_
  refine OW.q rfl rfl (yq_build (cs := treeC s (List.replicate 8 zeroHash)) rfl rfl (by kernel_rfl)) ?_
  refine OW.box (cs := treeC s (List.replicate 8 zeroHash)) rfl rfl rfl (by (conv => lhs; whnf) <;> rfl) rfl (fun b7 => ?_)
  rw [← fillL_zero (keyH s) 8]
  refine OW.q rfl rfl (yq_assign rfl (by (conv => lhs; whnf) <;> rfl)) ?_
  refine OW.nil ?_
  refine hK2 _ _ ?_
  refine CW.seq_k fun K3 hK3 => ?_
  refine CW.seq_k fun K4 hK4 => ?_
  refine CW.region ?_
  refine OW.q rfl rfl (yq_move rfl (by (conv => lhs; whnf) <;> rfl)) ?_
  refine OW.nil ?_
  refine hK4 _ _ ?_
  refine CW.block ?_
  refine CW.loop (σ := Nat) (fun k ρ L => Has ρ [(0, .string (bs s)), (3, .pointer (some ⟨b7, 0, none⟩)), (8, .int .i64 (k : Int))] ∧ k ≤ 8 ∧ L = [.blk b7 (treeC s (fillL (keyH s) 8 k)) 112 (0, 0)]) (fun k => 8 - k) (0) ?_ ?_
  · exact ⟨Has.mk ⟨(by (conv => lhs; whnf) <;> rfl), (by (conv => lhs; whnf) <;> rfl), (by (conv => lhs; whnf) <;> rfl), trivial⟩, by omega, rfl⟩
  · rintro k _ _ ⟨⟨ρ', rfl⟩, hk, rfl⟩
    refine CW.seq_k fun K5 hK5 => ?_
    refine CW.region ?_
    refine OW.q rfl rfl (yq_lss rfl (by (conv => lhs; whnf) <;> rfl) (by (conv => lhs; whnf) <;> rfl)) ?_
    refine OW.nil ?_
    refine hK5 _ _ ?_
    refine CW.seq_k fun K6 hK6 => ?_
    refine CW.cond_dec (by (conv => lhs; whnf) <;> rfl) (fun hc1 => ?_) (fun hc1 => ?_)
    · have hlt : k < 8 := by omega
      refine CW.skip ?_
      refine hK6 _ _ ?_
      refine CW.seq_k fun K7 hK7 => ?_
      refine CW.block ?_
      refine CW.seq_k fun K8 hK8 => ?_
      refine CW.region ?_
      refine OW.q rfl rfl (yq_move rfl (by (conv => lhs; whnf) <;> rfl)) ?_
      refine OW.q rfl rfl (yq_assign rfl (by (conv => lhs; whnf) <;> rfl)) ?_
      refine OW.nil ?_
      refine hK8 _ _ ?_
      refine CW.held ([]) mixed ?_
      refine HW.take 0 rfl (by kernel_rfl) (by kernel_rfl) (by kernel_rfl) rfl rfl (by repeat' first | exact List.Sublist.refl _ | exact List.nil_sublist _ | apply List.Sublist.cons_cons | apply List.Sublist.cons) (yv_of_yq rfl (yq_move rfl (by (conv => lhs; whnf) <;> rfl))) ?_
      refine HW.take 1 rfl (by kernel_rfl) (by kernel_rfl) (by kernel_rfl) rfl rfl (by repeat' first | exact List.Sublist.refl _ | exact List.nil_sublist _ | apply List.Sublist.cons_cons | apply List.Sublist.cons) (yv_of_yq rfl (yq_move rfl (by (conv => lhs; whnf) <;> rfl))) ?_
      refine HW.take 2 rfl (by kernel_rfl) (by kernel_rfl) (by kernel_rfl) rfl rfl (by repeat' first | exact List.Sublist.refl _ | exact List.nil_sublist _ | apply List.Sublist.cons_cons | apply List.Sublist.cons) (yv_of_yq rfl (yq_move rfl (by (conv => lhs; whnf) <;> rfl))) ?_
      refine HW.take 3 rfl (by kernel_rfl) (by kernel_rfl) (by kernel_rfl) rfl rfl (by repeat' first | exact List.Sublist.refl _ | exact List.nil_sublist _ | apply List.Sublist.cons_cons | apply List.Sublist.cons) (yv_of_yq rfl (yq_move rfl (by (conv => lhs; whnf) <;> rfl))) ?_
      refine HW.take 6 rfl (by kernel_rfl) (by kernel_rfl) (by kernel_rfl) rfl rfl (by repeat' first | exact List.Sublist.refl _ | exact List.nil_sublist _ | apply List.Sublist.cons_cons | apply List.Sublist.cons) (yv_nilCheck rfl (by (conv => lhs; whnf) <;> rfl)) ?_
      refine HW.take 7 rfl (by kernel_rfl) (by kernel_rfl) (by kernel_rfl) rfl rfl (by repeat' first | exact List.Sublist.refl _ | exact List.nil_sublist _ | apply List.Sublist.cons_cons | apply List.Sublist.cons) (yv_of_yq rfl (yq_fieldAddr rfl (by (conv => lhs; whnf) <;> rfl) tf112_2 ti110)) ?_
      refine HW.one 4 (by kernel_rfl) rfl ?_
      refine OW.calln rfl rfl rfl (by (conv => lhs; whnf) <;> rfl) (.cons (by (conv => lhs; whnf) <;> rfl) (.cons (by (conv => lhs; whnf) <;> rfl) .nil)) en59 (fun w hw => public_calls s (k : Int) w hs (Cl_gl0 hw hg)) ?_
      rintro _ _ ⟨⟨a, cap, rfl, rfl⟩, _⟩
      have hP : publicR s (k : Int) = publicL s k := publicR_ok (by omega)
      rw [hP]
      refine OW.nil ⟨rfl, (by repeat' first | exact List.Sublist.refl _ | exact List.nil_sublist _ | apply List.Sublist.cons_cons | apply List.Sublist.cons), ?_⟩
      refine HW.one 5 (by kernel_rfl) rfl ?_
      refine OW.q rfl rfl (yq_call rfl rfl (.cons (by (conv => lhs; whnf) <;> rfl) .nil) en60 (fun w hw => keyleaf_calls _ (publicL s k) w (HsAt.row (a := a) (cap := cap) rfl (hw.own _ (by repeat' first | exact List.mem_cons_self .. | apply List.mem_cons_of_mem))) (Cl_gl0 hw hg))) ?_
      refine OW.nil ⟨rfl, (by repeat' first | exact List.Sublist.refl _ | exact List.nil_sublist _ | apply List.Sublist.cons_cons | apply List.Sublist.cons), ?_⟩
      refine HW.take 8 rfl (by kernel_rfl) (by kernel_rfl) (by kernel_rfl) rfl rfl (by repeat' first | exact List.Sublist.refl _ | exact List.nil_sublist _ | apply List.Sublist.cons_cons | apply List.Sublist.cons) (yv_of_yq rfl (yq_index_arr rfl (by (conv => lhs; whnf) <;> rfl) (by (conv => lhs; whnf) <;> rfl) ta110 ti25 (by omega) (by omega))) ?_
      refine HW.one 9 (by kernel_rfl) rfl ?_
      refine OW.store' rfl rfl rfl (by (conv => lhs; whnf) <;> rfl) (by (conv => lhs; whnf) <;> rfl) (vs := hc (keyH s k)) (by rw [hc_length]; exact ti25) rfl (hc_one _) (by repeat' first | exact Put.head | apply Put.tail) (cs' := treeC s ((fillL (keyH s) 8 k).set k (keyH s k))) (by rw [show 0 + 2 + (k : Int).toNat * 32 = 2 + k * 32 by omega]; exact spl_tree s _ k (by rw [fillL_length]; exact hlt) _) (by rw [hc_length, treeC_length, fillL_length]; omega) ?_
      refine OW.nil ⟨rfl, (by repeat' first | exact List.Sublist.refl _ | exact List.nil_sublist _ | apply List.Sublist.cons_cons | apply List.Sublist.cons), ?_⟩
      refine HW.done (by kernel_rfl) ?_
      refine hK7 _ _ ?_
      refine CW.drop (List.sublist_cons_self _ _) ?_
      refine CW.region ?_
      refine OW.q rfl rfl (yq_add rfl (by (conv => lhs; whnf) <;> rfl) (by (conv => lhs; whnf) <;> rfl) (by omega)) ?_
      refine OW.q rfl rfl (yq_move rfl (by (conv => lhs; whnf) <;> rfl)) ?_
      refine OW.nil ?_
      exact ⟨k + 1, ⟨Has.mk ⟨(by (conv => lhs; whnf) <;> rfl), (by (conv => lhs; whnf) <;> rfl), (by (conv => lhs; whnf) <;> rfl), trivial⟩, by omega, by rw [fillL_set _ _ _ hlt]⟩, by omega⟩
    · have hk8 : k = 8 := by omega
      subst hk8
      refine CW.exit ?_
      refine then_exit ?_
      refine then_exit ?_
      refine blockQ_hit ?_
      refine hK3 _ _ ?_
      refine CW.seq_k fun K9 hK9 => ?_
      refine CW.region ?_
      refine OW.q rfl rfl (yq_move rfl (by (conv => lhs; whnf) <;> rfl)) ?_
      refine OW.q rfl rfl (yq_assign rfl (by (conv => lhs; whnf) <;> rfl)) ?_
      refine OW.nil ?_
      refine hK9 _ _ ?_
      refine CW.ret ?_
      -- ret (ret)
      rw [leavesL_fill]
      exact fin1 (Or.inr rfl) rfl ⟨by decide, (by (conv => lhs; whnf) <;> rfl)⟩ (fun w hw => ⟨_, _, rfl, hw, b7, rfl, rfl⟩)

set_option maxRecDepth 100000 in
set_option maxHeartbeats 1000000 in
theorem troot_calls (p : Value) (T : Option Bytes) (w : World) (hT : TreeAt w p T) (hg : GL w) :
    Calls Tryd.prog 48 #[p] w fun e w' => e = .returned (HV (troot T)) ∧ Cl w [] [] w' := by
  refine calls_of_CW (L := []) Tryd.func48 rfl (Nat.le_of_ble_eq_true rfl) (Cl.refl _) ?_
  refine CW.seq_k fun K1 hK1 => ?_
  refine CW.region ?_
  refine OW.alloc rfl rfl rfl tz25 (fun b2 => ?_)
  refine OW.nil ?_
  refine hK1 _ _ ?_
  refine CW.seq_k fun K2 hK2 => ?_
  refine CW.seq_k fun K3 hK3 => ?_
  refine CW.region ?_
  rcases hT.split with ⟨rfl, rfl⟩ | ⟨b, rfl, rfl, hb0⟩ | ⟨b, seed, rfl, rfl, hcl⟩
  · refine OW.q rfl rfl (yq_move rfl (by (conv => lhs; whnf) <;> rfl)) ?_
    refine OW.q rfl rfl ((yq_eql_ptnil rfl (by (conv => lhs; whnf) <;> rfl) (by (conv => lhs; whnf) <;> rfl) (by kernel_rfl)).to (v' := .bool true) rfl) ?_
    refine OW.q rfl rfl (yq_move rfl (by (conv => lhs; whnf) <;> rfl)) ?_
    refine OW.skip rfl rfl ?_
    refine OW.skip rfl rfl ?_
    refine OW.skip rfl rfl ?_
    refine OW.skip rfl rfl ?_
    refine OW.skip rfl rfl ?_
    refine OW.q rfl rfl (yq_pick rfl (by (conv => lhs; whnf) <;> rfl) (by (conv => lhs; whnf) <;> rfl)) ?_
    refine OW.nil ?_
    refine hK3 _ _ ?_
    refine CW.cond_t (by (conv => lhs; whnf) <;> rfl) ?_
    refine CW.seq_k fun K4 hK4 => ?_
    refine CW.region ?_
    refine OW.q rfl rfl (yq_build (parts := []) (pv := []) (cs := hc zeroHash) rfl rfl (by kernel_rfl)) ?_
    refine OW.storeH rfl rfl rfl (by (conv => lhs; whnf) <;> rfl) (by (conv => lhs; whnf) <;> rfl) ti25 (by repeat' first | exact Put.head | apply Put.tail) (hc_length _) ?_
    refine OW.nil ?_
    refine hK4 _ _ ?_
    refine CW.ret ?_
    refine then_ret ?_
    -- ret (ret)
    exact fin1 (Or.inr rfl) rfl (rv_hash (by decide) (by (conv => lhs; whnf) <;> rfl) ti25 (by repeat' first | exact List.mem_cons_self .. | apply List.mem_cons_of_mem)) (fun w hw => ⟨rfl, hw.sub (List.nil_sublist _)⟩)
  · refine OW.q rfl rfl (yq_move rfl (by (conv => lhs; whnf) <;> rfl)) ?_
    refine OW.q rfl rfl ((yq_eql_ptnil rfl (by (conv => lhs; whnf) <;> rfl) (by (conv => lhs; whnf) <;> rfl) (by kernel_rfl)).to (v' := .bool false) rfl) ?_
    refine OW.q rfl rfl (yq_move rfl (by (conv => lhs; whnf) <;> rfl)) ?_
    refine OW.q rfl rfl (yq_move rfl (by (conv => lhs; whnf) <;> rfl)) ?_
    refine OW.q rfl rfl (yq_nilCheck rfl (by (conv => lhs; whnf) <;> rfl)) ?_
    refine OW.q rfl rfl (yq_fieldAddr rfl (by (conv => lhs; whnf) <;> rfl) tf112_0 ti4) ?_
    refine OW.q rfl rfl (yq_load_c (v := .bool false) rfl (by (conv => lhs; whnf) <;> rfl) (fun w hw => run_load_one ti4 (hw.keep hb0))) ?_
    refine OW.q rfl rfl ((yq_not rfl (by (conv => lhs; whnf) <;> rfl)).to (v' := .bool true) rfl) ?_
    refine OW.q rfl rfl (yq_pick rfl (by (conv => lhs; whnf) <;> rfl) (by (conv => lhs; whnf) <;> rfl)) ?_
    refine OW.nil ?_
    refine hK3 _ _ ?_
    refine CW.cond_t (by (conv => lhs; whnf) <;> rfl) ?_
    refine CW.seq_k fun K5 hK5 => ?_
    refine CW.region ?_
    refine OW.q rfl rfl (yq_build (parts := []) (pv := []) (cs := hc zeroHash) rfl rfl (by kernel_rfl)) ?_
    refine OW.storeH rfl rfl rfl (by (conv => lhs; whnf) <;> rfl) (by (conv => lhs; whnf) <;> rfl) ti25 (by repeat' first | exact Put.head | apply Put.tail) (hc_length _) ?_
    refine OW.nil ?_
    refine hK5 _ _ ?_
    refine CW.ret ?_
    refine then_ret ?_
    -- ret (ret)
    exact fin1 (Or.inr rfl) rfl (rv_hash (by decide) (by (conv => lhs; whnf) <;> rfl) ti25 (by repeat' first | exact List.mem_cons_self .. | apply List.mem_cons_of_mem)) (fun w hw => ⟨rfl, hw.sub (List.nil_sublist _)⟩)
  · refine OW.q rfl rfl (yq_move rfl (by (conv => lhs; whnf) <;> rfl)) ?_
    refine OW.q rfl rfl ((yq_eql_ptnil rfl (by (conv => lhs; whnf) <;> rfl) (by (conv => lhs; whnf) <;> rfl) (by kernel_rfl)).to (v' := .bool false) rfl) ?_
    refine OW.q rfl rfl (yq_move rfl (by (conv => lhs; whnf) <;> rfl)) ?_
    refine OW.q rfl rfl (yq_move rfl (by (conv => lhs; whnf) <;> rfl)) ?_
    refine OW.q rfl rfl (yq_nilCheck rfl (by (conv => lhs; whnf) <;> rfl)) ?_
    refine OW.q rfl rfl (yq_fieldAddr rfl (by (conv => lhs; whnf) <;> rfl) tf112_0 ti4) ?_
    refine OW.q rfl rfl (yq_load_c (v := .bool true) rfl (by (conv => lhs; whnf) <;> rfl) (fun w hw => run_load_one ti4 (hw.keep (tree_true hcl)))) ?_
    refine OW.q rfl rfl ((yq_not rfl (by (conv => lhs; whnf) <;> rfl)).to (v' := .bool false) rfl) ?_
    refine OW.q rfl rfl (yq_pick rfl (by (conv => lhs; whnf) <;> rfl) (by (conv => lhs; whnf) <;> rfl)) ?_
    refine OW.nil ?_
    refine hK3 _ _ ?_
    refine CW.cond_f (by (conv => lhs; whnf) <;> rfl) ?_
    refine CW.skip ?_
    refine hK2 _ _ ?_
    refine CW.seq_k fun K6 hK6 => ?_
    refine CW.region ?_
    refine OW.q rfl rfl (yq_move rfl (by (conv => lhs; whnf) <;> rfl)) ?_
    refine OW.q rfl rfl (yq_nilCheck rfl (by (conv => lhs; whnf) <;> rfl)) ?_
    refine OW.q rfl rfl (yq_fieldAddr rfl (by (conv => lhs; whnf) <;> rfl) tf112_2 ti110) ?_
    refine OW.q rfl rfl ((yq_slice_arr (k := 8) (l := 0) (h := 8) rfl (by (conv => lhs; whnf) <;> rfl) ta110 ti25 (by rfl) (by rfl) (by decide) (by decide)).to (v' := .slice (some ⟨b, 2, none⟩) 8 8) (by simp)) ?_
    refine OW.q rfl rfl (yq_call rfl rfl (.cons (by (conv => lhs; whnf) <;> rfl) .nil) en24 (fun w hw => root_calls _ (leavesL seed) w (tree_hs (fun j u hu => hw.keep (hcl j u hu))) (by rw [leavesL_length]; decide) (Cl_gl0 hw hg))) ?_
    refine OW.storeH rfl rfl rfl (by (conv => lhs; whnf) <;> rfl) (by (conv => lhs; whnf) <;> rfl) ti25 (by repeat' first | exact Put.head | apply Put.tail) (hc_length _) ?_
    refine OW.nil ?_
    refine hK6 _ _ ?_
    refine CW.ret ?_
    -- ret (ret)
    exact fin1 (Or.inr rfl) rfl (rv_hash (by decide) (by (conv => lhs; whnf) <;> rfl) ti25 (by repeat' first | exact List.mem_cons_self .. | apply List.mem_cons_of_mem)) (fun w hw => ⟨rfl, hw.sub (List.nil_sublist _)⟩)

set_option maxRecDepth 100000 in
set_option maxHeartbeats 1000000 in
theorem tsign_calls (p : Value) (T : Option Bytes) (i : Int) (h : Hash) (w : World) (hT : TreeAt w p T) (hTs : ∀ s, T = some s → s.length ≤ 4294967200) (hi1 : -9223372036854775808 ≤ i) (hi2 : i ≤ 9223372036854775807) (hg : GL w) :
    Calls Tryd.prog 75 #[p, .int .i64 i, HV h] w fun e w' => ∃ v L1, e = .returned v ∧ Cl w [] L1 w' ∧ OutSeal v L1 (tsign T i (hb h)) := by
  refine calls_of_CW (L := []) Tryd.func75 rfl (Nat.le_of_ble_eq_true rfl) (Cl.refl _) ?_
  refine CW.seq_k fun K1 hK1 => ?_
  refine CW.region ?_
  refine OW.box rfl rfl rfl (by (conv => lhs; whnf) <;> rfl) (by rfl) (fun b5 => ?_)
  refine OW.alloc rfl rfl rfl tz44 (fun b6 => ?_)
  refine OW.q rfl rfl (yq_assign rfl (by (conv => lhs; whnf) <;> rfl)) ?_
  refine OW.nil ?_
  refine hK1 _ _ ?_
  refine CW.seq_k fun K2 hK2 => ?_
  refine CW.block ?_
  refine CW.seq_k fun K3 hK3 => ?_
  refine CW.region ?_
  rcases hT.split with ⟨rfl, rfl⟩ | ⟨b, rfl, rfl, hb0⟩ | ⟨b, seed, rfl, rfl, hcl⟩
  · refine OW.q rfl rfl (yq_move rfl (by (conv => lhs; whnf) <;> rfl)) ?_
    refine OW.q rfl rfl ((yq_eql_ptnil rfl (by (conv => lhs; whnf) <;> rfl) (by (conv => lhs; whnf) <;> rfl) (by kernel_rfl)).to (v' := .bool true) rfl) ?_
    refine OW.q rfl rfl (yq_move rfl (by (conv => lhs; whnf) <;> rfl)) ?_
    refine OW.skip rfl rfl ?_
    refine OW.skip rfl rfl ?_
    refine OW.skip rfl rfl ?_
    refine OW.skip rfl rfl ?_
    refine OW.skip rfl rfl ?_
    refine OW.q rfl rfl (yq_pick rfl (by (conv => lhs; whnf) <;> rfl) (by (conv => lhs; whnf) <;> rfl)) ?_
    refine OW.q rfl rfl (yq_assign rfl (by (conv => lhs; whnf) <;> rfl)) ?_
    refine OW.nil ?_
    refine hK3 _ _ ?_
    refine CW.cond_t (by (conv => lhs; whnf) <;> rfl) ?_
    refine CW.seq_k fun K4 hK4 => ?_
    refine CW.region ?_
    refine OW.q rfl rfl (yq_build (parts := []) (pv := []) (cs := [.int .i64 0, .string (bs []), rowV none 0 0]) rfl rfl (by kernel_rfl)) ?_
    refine OW.store' rfl rfl rfl (by (conv => lhs; whnf) <;> rfl) (by (conv => lhs; whnf) <;> rfl) (vs := [.int .i64 0, .string (bs []), rowV none 0 0]) ti44 rfl (by intro u hu; simp only [List.mem_cons, List.not_mem_nil, or_false] at hu; rcases hu with rfl | rfl | rfl <;> rfl) (by repeat' first | exact Put.head | apply Put.tail) (by exact spl_all _ _ rfl) (by exact Nat.le_of_ble_eq_true rfl) ?_
    refine OW.q rfl rfl (yq_assign rfl (by (conv => lhs; whnf) <;> rfl)) ?_
    refine OW.nil ?_
    refine hK4 _ _ ?_
    refine CW.ret ?_
    refine blockQ_ret ?_
    refine then_ret ?_
    -- ret (ret)
    rw [tsign_none]
    refine fin2 (Or.inr rfl) rfl (rv_agg (vs := [.int .i64 0, .string (bs []), rowV none 0 0]) (by decide) (by (conv => lhs; whnf) <;> rfl) ti44 (by repeat' first | exact List.mem_cons_self .. | apply List.mem_cons_of_mem)) ⟨by decide, (by (conv => lhs; whnf) <;> rfl)⟩ (fun w hw => ?_)
    exact ⟨_, [.row none 0 0 25 32 []], rfl, nilrow_cl (hw.sub (List.nil_sublist _)) 25 32, _, rfl, none, 0, rfl, rfl⟩
  · refine OW.q rfl rfl (yq_move rfl (by (conv => lhs; whnf) <;> rfl)) ?_
    refine OW.q rfl rfl ((yq_eql_ptnil rfl (by (conv => lhs; whnf) <;> rfl) (by (conv => lhs; whnf) <;> rfl) (by kernel_rfl)).to (v' := .bool false) rfl) ?_
    refine OW.q rfl rfl (yq_move rfl (by (conv => lhs; whnf) <;> rfl)) ?_
    refine OW.q rfl rfl (yq_move rfl (by (conv => lhs; whnf) <;> rfl)) ?_
    refine OW.q rfl rfl (yq_nilCheck rfl (by (conv => lhs; whnf) <;> rfl)) ?_
    refine OW.q rfl rfl (yq_fieldAddr rfl (by (conv => lhs; whnf) <;> rfl) tf112_0 ti4) ?_
    refine OW.q rfl rfl (yq_load_c (v := .bool false) rfl (by (conv => lhs; whnf) <;> rfl) (fun w hw => run_load_one ti4 (hw.keep hb0))) ?_
    refine OW.q rfl rfl ((yq_not rfl (by (conv => lhs; whnf) <;> rfl)).to (v' := .bool true) rfl) ?_
    refine OW.q rfl rfl (yq_pick rfl (by (conv => lhs; whnf) <;> rfl) (by (conv => lhs; whnf) <;> rfl)) ?_
    refine OW.q rfl rfl (yq_assign rfl (by (conv => lhs; whnf) <;> rfl)) ?_
    refine OW.nil ?_
    refine hK3 _ _ ?_
    refine CW.cond_t (by (conv => lhs; whnf) <;> rfl) ?_
    refine CW.seq_k fun K5 hK5 => ?_
    refine CW.region ?_
    refine OW.q rfl rfl (yq_build (parts := []) (pv := []) (cs := [.int .i64 0, .string (bs []), rowV none 0 0]) rfl rfl (by kernel_rfl)) ?_
    refine OW.store' rfl rfl rfl (by (conv => lhs; whnf) <;> rfl) (by (conv => lhs; whnf) <;> rfl) (vs := [.int .i64 0, .string (bs []), rowV none 0 0]) ti44 rfl (by intro u hu; simp only [List.mem_cons, List.not_mem_nil, or_false] at hu; rcases hu with rfl | rfl | rfl <;> rfl) (by repeat' first | exact Put.head | apply Put.tail) (by exact spl_all _ _ rfl) (by exact Nat.le_of_ble_eq_true rfl) ?_
    refine OW.q rfl rfl (yq_assign rfl (by (conv => lhs; whnf) <;> rfl)) ?_
    refine OW.nil ?_
    refine hK5 _ _ ?_
    refine CW.ret ?_
    refine blockQ_ret ?_
    refine then_ret ?_
    -- ret (ret)
    rw [tsign_none]
    refine fin2 (Or.inr rfl) rfl (rv_agg (vs := [.int .i64 0, .string (bs []), rowV none 0 0]) (by decide) (by (conv => lhs; whnf) <;> rfl) ti44 (by repeat' first | exact List.mem_cons_self .. | apply List.mem_cons_of_mem)) ⟨by decide, (by (conv => lhs; whnf) <;> rfl)⟩ (fun w hw => ?_)
    exact ⟨_, [.row none 0 0 25 32 []], rfl, nilrow_cl (hw.sub (List.nil_sublist _)) 25 32, _, rfl, none, 0, rfl, rfl⟩
  · refine OW.q rfl rfl (yq_move rfl (by (conv => lhs; whnf) <;> rfl)) ?_
    refine OW.q rfl rfl ((yq_eql_ptnil rfl (by (conv => lhs; whnf) <;> rfl) (by (conv => lhs; whnf) <;> rfl) (by kernel_rfl)).to (v' := .bool false) rfl) ?_
    refine OW.q rfl rfl (yq_move rfl (by (conv => lhs; whnf) <;> rfl)) ?_
    refine OW.q rfl rfl (yq_move rfl (by (conv => lhs; whnf) <;> rfl)) ?_
    refine OW.q rfl rfl (yq_nilCheck rfl (by (conv => lhs; whnf) <;> rfl)) ?_
    refine OW.q rfl rfl (yq_fieldAddr rfl (by (conv => lhs; whnf) <;> rfl) tf112_0 ti4) ?_
    refine OW.q rfl rfl (yq_load_c (v := .bool true) rfl (by (conv => lhs; whnf) <;> rfl) (fun w hw => run_load_one ti4 (hw.keep (tree_true hcl)))) ?_
    refine OW.q rfl rfl ((yq_not rfl (by (conv => lhs; whnf) <;> rfl)).to (v' := .bool false) rfl) ?_
    refine OW.q rfl rfl (yq_pick rfl (by (conv => lhs; whnf) <;> rfl) (by (conv => lhs; whnf) <;> rfl)) ?_
    refine OW.q rfl rfl (yq_assign rfl (by (conv => lhs; whnf) <;> rfl)) ?_
    refine OW.nil ?_
    refine hK3 _ _ ?_
    refine CW.cond_f (by (conv => lhs; whnf) <;> rfl) ?_
    refine CW.seq_k fun K6 hK6 => ?_
    refine CW.region ?_
    refine OW.q rfl rfl (yq_move rfl (by (conv => lhs; whnf) <;> rfl)) ?_
    refine OW.qb rfl rfl (yq_lss rfl (by (conv => lhs; whnf) <;> rfl) (by (conv => lhs; whnf) <;> rfl)) (fun b23 hb23 => ?_)
    refine OW.q rfl rfl (yq_move rfl (by (conv => lhs; whnf) <;> rfl)) ?_
    apply OW.segOr 3 [25, 26] 27 hb23
    · intro hb23e
      refine QW.q (by subst hb23e; rfl) rfl (yq_move rfl (by (conv => lhs; whnf) <;> rfl)) ?_
      refine QW.qb (by subst hb23e; rfl) rfl (yq_geq rfl (by (conv => lhs; whnf) <;> rfl) (by (conv => lhs; whnf) <;> rfl)) (fun b26 hb26 => ?_)
      refine QW.q rfl rfl (yq_pick rfl (by (conv => lhs; whnf) <;> rfl) (by subst hb23e; ((conv => lhs; whnf) <;> rfl))) ?_
      exact QW.nil (SegM.mk (any_c (any_c any_n)) (or_run hb23 hb23e hb26))
    · intro hb23e
      refine QW.skip (by subst hb23e; rfl) rfl ?_
      refine QW.skip (by subst hb23e; rfl) rfl ?_
      refine QW.q rfl rfl (yq_pick rfl (by (conv => lhs; whnf) <;> rfl) (by subst hb23e; ((conv => lhs; whnf) <;> rfl))) ?_
      exact QW.nil (SegM.mk (any_c (any_c any_n)) (or_skip hb23 hb23e))
    · intro ρ27 b27 hA hb27
      obtain ⟨x25, x26, rfl⟩ := hA
      refine OW.q rfl rfl (yq_assign rfl (by (conv => lhs; whnf) <;> rfl)) ?_
      refine OW.nil ?_
      refine hK6 _ _ ?_
      refine CW.condq (by (conv => lhs; whnf) <;> rfl) hb27 (fun hc2 => ?_) (fun hc2 => ?_)
      · refine CW.seq_k fun K7 hK7 => ?_
        refine CW.region ?_
        refine OW.q rfl rfl (yq_build (parts := []) (pv := []) (cs := [.int .i64 0, .string (bs []), rowV none 0 0]) rfl rfl (by kernel_rfl)) ?_
        refine OW.store' rfl rfl rfl (by (conv => lhs; whnf) <;> rfl) (by (conv => lhs; whnf) <;> rfl) (vs := [.int .i64 0, .string (bs []), rowV none 0 0]) ti44 rfl (by intro u hu; simp only [List.mem_cons, List.not_mem_nil, or_false] at hu; rcases hu with rfl | rfl | rfl <;> rfl) (by repeat' first | exact Put.head | apply Put.tail) (by exact spl_all _ _ rfl) (by exact Nat.le_of_ble_eq_true rfl) ?_
        refine OW.q rfl rfl (yq_assign rfl (by (conv => lhs; whnf) <;> rfl)) ?_
        refine OW.nil ?_
        refine hK7 _ _ ?_
        refine CW.ret ?_
        refine blockQ_ret ?_
        refine then_ret ?_
        -- ret (ret)
        rw [tsign_bad (by omega)]
        refine fin2 (Or.inr rfl) rfl (rv_agg (vs := [.int .i64 0, .string (bs []), rowV none 0 0]) (by decide) (by (conv => lhs; whnf) <;> rfl) ti44 (by repeat' first | exact List.mem_cons_self .. | apply List.mem_cons_of_mem)) ⟨by decide, (by (conv => lhs; whnf) <;> rfl)⟩ (fun w hw => ?_)
        exact ⟨_, [.row none 0 0 25 32 []], rfl, nilrow_cl (hw.sub (List.nil_sublist _)) 25 32, _, rfl, none, 0, rfl, rfl⟩
      · have hsl := hTs seed rfl
        obtain ⟨k, rfl⟩ : ∃ k : Nat, i = (k : Int) := ⟨i.toNat, by omega⟩
        have hin : ¬ ((k : Int) < 0 ∨ ((leavesL seed).length : Int) ≤ (k : Int)) := by rw [leavesL_length]; omega
        have hPR := pathR_ok hin
        have hSR : signR seed (k : Int) (hb h) = signB seed k (hb h) := signR_ok (by omega)
        have hTS : tsign (some seed) (k : Int) (hb h) = ((k : Int), signB seed k (hb h), pathL (leavesL seed) k, 0) := tsign_ok (by omega)
        refine CW.skip ?_
        refine hK2 _ _ ?_
        refine CW.seq_k fun K8 hK8 => ?_
        refine CW.region ?_
        refine OW.q rfl rfl (yq_move rfl (by (conv => lhs; whnf) <;> rfl)) ?_
        refine OW.q rfl rfl (yq_nilCheck rfl (by (conv => lhs; whnf) <;> rfl)) ?_
        refine OW.q rfl rfl (yq_fieldAddr rfl (by (conv => lhs; whnf) <;> rfl) tf112_2 ti110) ?_
        refine OW.q rfl rfl ((yq_slice_arr (k := 8) (l := 0) (h := 8) rfl (by (conv => lhs; whnf) <;> rfl) ta110 ti25 (by rfl) (by rfl) (by decide) (by decide)).to (v' := .slice (some ⟨b, 2, none⟩) 8 8) (by simp)) ?_
        refine OW.q rfl rfl (yq_move rfl (by (conv => lhs; whnf) <;> rfl)) ?_
        refine OW.calln rfl rfl rfl (by (conv => lhs; whnf) <;> rfl) (.cons (by (conv => lhs; whnf) <;> rfl) (.cons (by (conv => lhs; whnf) <;> rfl) .nil)) en41 (fun w hw => path_calls _ (leavesL seed) (k : Int) w (tree_hs (fun j u hu => hw.keep (hcl j u hu))) (by rw [leavesL_length]; decide) (by omega) (by omega) (Cl_gl0 hw hg)) ?_
        rintro _ _ ⟨_, rfl, a1, c1, rfl, rfl⟩
        rw [hPR]
        refine OW.q rfl rfl (yq_move rfl (by (conv => lhs; whnf) <;> rfl)) ?_
        refine OW.q rfl rfl (yq_extract rfl (by (conv => lhs; whnf) <;> rfl) rfl) ?_
        refine OW.q rfl rfl (yq_extract rfl (by (conv => lhs; whnf) <;> rfl) rfl) ?_
        refine OW.q rfl rfl (yq_assign rfl (by (conv => lhs; whnf) <;> rfl)) ?_
        refine OW.q rfl rfl (yq_assign rfl (by (conv => lhs; whnf) <;> rfl)) ?_
        refine OW.nil ?_
        refine hK8 _ _ ?_
        refine CW.seq_k fun K9 hK9 => ?_
        refine CW.drawT 10 mixed (by kernel_rfl) ?_
        refine QW.q rfl rfl (yq_move rfl (by (conv => lhs; whnf) <;> rfl)) ?_
        refine QW.q rfl rfl (yq_move rfl (by (conv => lhs; whnf) <;> rfl)) ?_
        refine QW.q rfl rfl (yq_nilCheck rfl (by (conv => lhs; whnf) <;> rfl)) ?_
        refine QW.q rfl rfl (yq_fieldAddr rfl (by (conv => lhs; whnf) <;> rfl) tf112_1 ti9) ?_
        refine QW.q rfl rfl (yq_load_c (v := .string (bs seed)) rfl (by (conv => lhs; whnf) <;> rfl) (fun w hw => run_load_one ti9 (hw.keep (tree_seed hcl)))) ?_
        refine QW.q rfl rfl (yq_move rfl (by (conv => lhs; whnf) <;> rfl)) ?_
        refine QW.q rfl rfl (yq_loadH rfl (by (conv => lhs; whnf) <;> rfl) ti25 (by repeat' first | exact List.mem_cons_self .. | apply List.mem_cons_of_mem)) ?_
        refine QW.q rfl rfl (yq_call rfl rfl (.cons (by (conv => lhs; whnf) <;> rfl) ( .cons (by (conv => lhs; whnf) <;> rfl) ( .cons (by (conv => lhs; whnf) <;> rfl) .nil))) en52 (fun w hw => hSR ▸ sign_calls seed (k : Int) h w hsl (Cl_gl0 hw hg))) ?_
        refine QW.q rfl rfl (yq_move rfl (by (conv => lhs; whnf) <;> rfl)) ?_
        refine QW.q rfl rfl (yq_build (cs := [.int .i64 (k : Int), .string (bs (signB seed k (hb h))), rowV a1 (pathL (leavesL seed) k).length c1]) rfl rfl (by kernel_rfl)) ?_
        refine QW.nil ?_
        refine OW.store' rfl rfl rfl (by (conv => lhs; whnf) <;> rfl) (by (conv => lhs; whnf) <;> rfl) (vs := [.int .i64 (k : Int), .string (bs (signB seed k (hb h))), rowV a1 (pathL (leavesL seed) k).length c1]) ti44 rfl (by intro u hu; simp only [List.mem_cons, List.not_mem_nil, or_false] at hu; rcases hu with rfl | rfl | rfl <;> rfl) (by repeat' first | exact Put.head | apply Put.tail) (by exact spl_all _ _ rfl) (by exact Nat.le_of_ble_eq_true rfl) ?_
        refine OW.q rfl rfl (yq_assign rfl (by (conv => lhs; whnf) <;> rfl)) ?_
        refine OW.nil ?_
        refine hK9 _ _ ?_
        refine CW.ret ?_
        -- ret (ret)
        rw [hTS]
        refine fin2 (Or.inr rfl) rfl (rv_agg (vs := [.int .i64 (k : Int), .string (bs (signB seed k (hb h))), rowV a1 (pathL (leavesL seed) k).length c1]) (by decide) (by (conv => lhs; whnf) <;> rfl) ti44 (by repeat' first | exact List.mem_cons_self .. | apply List.mem_cons_of_mem)) ⟨by decide, (by (conv => lhs; whnf) <;> rfl)⟩ (fun w hw => ?_)
        exact ⟨_, [.row a1 c1 (pathL (leavesL seed) k).length 25 32 ((pathL (leavesL seed) k).flatMap hc)], rfl, hw.sub (by repeat' first | exact List.Sublist.refl _ | exact List.nil_sublist _ | apply List.Sublist.cons_cons | apply List.Sublist.cons), _, rfl, a1, c1, rfl, rfl⟩

set_option maxRecDepth 100000 in
set_option maxHeartbeats 1000000 in
theorem refleaves_calls (s : Bytes) (w : World) (hs : s.length ≤ 4294967200) :
    Calls Tryd.prog 73 #[.string (bs s)] w fun e w' => ∃ v L1, e = .returned v ∧ Cl w [] L1 w' ∧ OutHs v L1 (leavesL s) := by
  refine calls_of_CW (L := []) Tryd.func73 rfl (Nat.le_of_ble_eq_true rfl) (Cl.refl _) ?_
  refine CW.seq_k fun K1 hK1 => ?_
  refine CW.region ?_
  refine OW.q rfl rfl (yq_assign rfl (by (conv => lhs; whnf) <;> rfl)) ?_
  refine OW.nil ?_
  refine hK1 _ _ ?_
  refine CW.seq_k fun K2 hK2 => ?_
  refine CW.region ?_
  refine OW.q rfl rfl (yq_assign rfl (by (conv => lhs; whnf) <;> rfl)) ?_
  refine OW.nil ?_
  refine hK2 _ _ ?_
  refine CW.seq_k fun K3 hK3 => ?_
  refine CW.seq_k fun K4 hK4 => ?_
  refine CW.region ?_
  refine OW.nilrow 25 32 ?_
  refine OW.q rfl rfl (yq_assign rfl (by (conv => lhs; whnf) <;> rfl)) ?_
  refine OW.nil ?_
  refine hK4 _ _ ?_
  refine CW.block ?_
  refine CW.loop (σ := Nat) (fun k ρ L => ∃ a cap, Has ρ [(0, .string (bs s)), (3, rowV a k cap), (4, .int .i64 (k : Int))] ∧ k ≤ 8 ∧ L = [.row a cap k 25 32 (((List.range k).map (keyH s)).flatMap hc)]) (fun k => 8 - k) (0) ?_ ?_
  · exact ⟨none, 0, Has.mk ⟨(by (conv => lhs; whnf) <;> rfl), (by (conv => lhs; whnf) <;> rfl), (by (conv => lhs; whnf) <;> rfl), trivial⟩, by omega, rfl⟩
  · rintro k _ _ ⟨a, cap, ⟨ρ', rfl⟩, hk, rfl⟩
    refine CW.seq_k fun K5 hK5 => ?_
    refine CW.seq_k fun K6 hK6 => ?_
    refine CW.region ?_
    refine OW.q rfl rfl (yq_move rfl (by (conv => lhs; whnf) <;> rfl)) ?_
    refine OW.q rfl rfl (yq_lss rfl (by (conv => lhs; whnf) <;> rfl) (by (conv => lhs; whnf) <;> rfl)) ?_
    refine OW.nil ?_
    refine hK6 _ _ ?_
    refine CW.cond_dec (by (conv => lhs; whnf) <;> rfl) (fun hc1 => ?_) (fun hc1 => ?_)
    · have hlt : k < 8 := by omega
      refine CW.skip ?_
      refine hK5 _ _ ?_
      refine CW.seq_k fun K7 hK7 => ?_
      refine CW.block ?_
      refine CW.region ?_
      refine OW.q rfl rfl (yq_move rfl (by (conv => lhs; whnf) <;> rfl)) ?_
      refine OW.q rfl rfl (yq_move rfl (by (conv => lhs; whnf) <;> rfl)) ?_
      refine OW.q rfl rfl (yq_move rfl (by (conv => lhs; whnf) <;> rfl)) ?_
      refine OW.calln rfl rfl rfl (by (conv => lhs; whnf) <;> rfl) (.cons (by (conv => lhs; whnf) <;> rfl) (.cons (by (conv => lhs; whnf) <;> rfl) .nil)) en58 (fun w hw => refpublic_calls s (k : Int) w hs) ?_
      rintro _ _ ⟨a2, c2, rfl, rfl⟩
      have hP : publicR s (k : Int) = publicL s k := publicR_ok (by omega)
      rw [hP]
      refine OW.q rfl rfl (yq_call rfl rfl (.cons (by (conv => lhs; whnf) <;> rfl) .nil) en61 (fun w hw => refkeyleaf_calls _ (publicL s k) w (HsAt.row (a := a2) (cap := c2) rfl (hw.own _ (by repeat' first | exact List.mem_cons_self .. | apply List.mem_cons_of_mem))))) ?_
      refine OW.slicelit (vs := [HV (keyH s k)]) rfl rfl rfl rfl ts22 ti25 tz25 (by decide) rfl (by decide) (by simp [HV_cells]) (by decide) (cs := hc (keyH s k)) (by simp [HV_cells]) (fun bl => ?_)
      refine OW.append (news := hc (keyH s k)) rfl rfl rfl (by (conv => lhs; whnf) <;> rfl) (by (conv => lhs; whnf) <;> rfl) ts22 ti25 tz25 (by repeat' first | exact Del.head | apply Del.tail) (blk_cells (by repeat' first | exact List.mem_cons_self .. | apply List.mem_cons_of_mem)) (by rw [hc_length]) (hc_one _) (hc_length _) (by decide) (by simp only [maxLen]; omega) (by omega) (fun a' cap' => ?_)
      refine OW.drop (List.Sublist.cons_cons _ (List.nil_sublist _)) ?_
      refine OW.q rfl rfl (yq_assign rfl (by (conv => lhs; whnf) <;> rfl)) ?_
      refine OW.nil ?_
      refine hK7 _ _ ?_
      refine CW.region ?_
      refine OW.q rfl rfl (yq_move rfl (by (conv => lhs; whnf) <;> rfl)) ?_
      refine OW.q rfl rfl (yq_add rfl (by (conv => lhs; whnf) <;> rfl) (by (conv => lhs; whnf) <;> rfl) (by omega)) ?_
      refine OW.q rfl rfl (yq_assign rfl (by (conv => lhs; whnf) <;> rfl)) ?_
      refine OW.nil ?_
      refine ⟨k + 1, ⟨a', cap', Has.mk ⟨(by (conv => lhs; whnf) <;> rfl), (by (conv => lhs; whnf) <;> rfl), (by (conv => lhs; whnf) <;> rfl), trivial⟩, by omega, ?_⟩, by omega⟩
      rw [List.range_succ, List.map_append, List.flatMap_append, List.map_singleton, List.flatMap_singleton]
    · have hk8 : k = 8 := by omega
      subst hk8
      refine CW.exit ?_
      refine then_exit ?_
      refine then_exit ?_
      refine blockQ_hit ?_
      refine hK3 _ _ ?_
      refine CW.seq_k fun K8 hK8 => ?_
      refine CW.region ?_
      refine OW.q rfl rfl (yq_move rfl (by (conv => lhs; whnf) <;> rfl)) ?_
      refine OW.q rfl rfl (yq_assign rfl (by (conv => lhs; whnf) <;> rfl)) ?_
      refine OW.nil ?_
      refine hK8 _ _ ?_
      refine CW.ret ?_
      -- ret (ret)
      exact fin1 (Or.inr rfl) rfl ⟨by decide, (by (conv => lhs; whnf) <;> rfl)⟩ (fun w hw => ⟨_, _, rfl, hw, a, cap, rfl, rfl⟩)

set_option maxRecDepth 100000 in
set_option maxHeartbeats 1000000 in
theorem reftroot_calls (v : Value) (l : List Hash) (w : World) (hs : HsAt w v l) (hll : l.length ≤ 1099511627776) :
    Calls Tryd.prog 74 #[v] w fun e w' => e = .returned (HV (rootL l)) ∧ Cl w [] [] w' := by
  refine calls_of_CW (L := []) Tryd.func74 rfl (Nat.le_of_ble_eq_true rfl) (Cl.refl _) ?_
  refine CW.seq_k fun K1 hK1 => ?_
  refine CW.region ?_
  refine OW.alloc rfl rfl rfl tz25 (fun b2 => ?_)
  refine OW.nil ?_
  refine hK1 _ _ ?_
  refine CW.seq_k fun K2 hK2 => ?_
  refine CW.region ?_
  refine OW.q rfl rfl (yq_move rfl (by (conv => lhs; whnf) <;> rfl)) ?_
  refine OW.q rfl rfl (yq_call rfl rfl (.cons (by (conv => lhs; whnf) <;> rfl) .nil) en25 (fun w hw => rroot_calls l _ w hll (hs.mono hw))) ?_
  refine OW.storeH rfl rfl rfl (by (conv => lhs; whnf) <;> rfl) (by (conv => lhs; whnf) <;> rfl) ti25 (by repeat' first | exact Put.head | apply Put.tail) (hc_length _) ?_
  refine OW.nil ?_
  refine hK2 _ _ ?_
  refine CW.ret ?_
  -- ret (ret)
  exact fin1 (Or.inr rfl) rfl (rv_hash (by decide) (by (conv => lhs; whnf) <;> rfl) ti25 (by repeat' first | exact List.mem_cons_self .. | apply List.mem_cons_of_mem)) (fun w hw => ⟨rfl, hw.sub (List.nil_sublist _)⟩)

set_option maxRecDepth 100000 in
set_option maxHeartbeats 1000000 in
theorem reftsign_calls (s : Bytes) (v : Value) (i : Int) (h : Hash) (w : World) (hs : HsAt w v (leavesL s)) (hsl : s.length ≤ 4294967200) (hi1 : -9223372036854775808 ≤ i) (hi2 : i ≤ 9223372036854775807) :
    Calls Tryd.prog 76 #[.string (bs s), v, .int .i64 i, HV h] w fun e w' => ∃ v L1, e = .returned v ∧ Cl w [] L1 w' ∧ OutSeal v L1 (tsign (some s) i (hb h)) := by
  refine calls_of_CW (L := []) Tryd.func76 rfl (Nat.le_of_ble_eq_true rfl) (Cl.refl _) ?_
  refine CW.seq_k fun K1 hK1 => ?_
  refine CW.region ?_
  refine OW.box rfl rfl rfl (by (conv => lhs; whnf) <;> rfl) (by rfl) (fun b7 => ?_)
  refine OW.alloc rfl rfl rfl tz44 (fun b8 => ?_)
  refine OW.q rfl rfl (yq_assign rfl (by (conv => lhs; whnf) <;> rfl)) ?_
  refine OW.nil ?_
  refine hK1 _ _ ?_
  refine CW.seq_k fun K2 hK2 => ?_
  refine CW.seq_k fun K3 hK3 => ?_
  refine CW.region ?_
  refine OW.q rfl rfl (yq_move rfl (by (conv => lhs; whnf) <;> rfl)) ?_
  refine OW.qb rfl rfl (yq_lss rfl (by (conv => lhs; whnf) <;> rfl) (by (conv => lhs; whnf) <;> rfl)) (fun b13 hb13 => ?_)
  refine OW.q rfl rfl (yq_move rfl (by (conv => lhs; whnf) <;> rfl)) ?_
  apply OW.segOr 3 [15, 16] 17 hb13
  · intro hb13e
    refine QW.q (by subst hb13e; rfl) rfl (yq_move rfl (by (conv => lhs; whnf) <;> rfl)) ?_
    refine QW.qb (by subst hb13e; rfl) rfl (yq_gtr rfl (by (conv => lhs; whnf) <;> rfl) (by (conv => lhs; whnf) <;> rfl)) (fun b16 hb16 => ?_)
    refine QW.q rfl rfl (yq_pick rfl (by (conv => lhs; whnf) <;> rfl) (by subst hb13e; ((conv => lhs; whnf) <;> rfl))) ?_
    exact QW.nil (SegM.mk (any_c (any_c any_n)) (or_run hb13 hb13e hb16))
  · intro hb13e
    refine QW.skip (by subst hb13e; rfl) rfl ?_
    refine QW.skip (by subst hb13e; rfl) rfl ?_
    refine QW.q rfl rfl (yq_pick rfl (by (conv => lhs; whnf) <;> rfl) (by subst hb13e; ((conv => lhs; whnf) <;> rfl))) ?_
    exact QW.nil (SegM.mk (any_c (any_c any_n)) (or_skip hb13 hb13e))
  · intro ρ17 b17 hA hb17
    obtain ⟨x15, x16, rfl⟩ := hA
    refine OW.nil ?_
    refine hK3 _ _ ?_
    refine CW.condq (by (conv => lhs; whnf) <;> rfl) hb17 (fun hc0 => ?_) (fun hc0 => ?_)
    · refine CW.seq_k fun K4 hK4 => ?_
      refine CW.region ?_
      refine OW.q rfl rfl (yq_build (parts := []) (pv := []) (cs := [.int .i64 0, .string (bs []), rowV none 0 0]) rfl rfl (by kernel_rfl)) ?_
      refine OW.store' rfl rfl rfl (by (conv => lhs; whnf) <;> rfl) (by (conv => lhs; whnf) <;> rfl) (vs := [.int .i64 0, .string (bs []), rowV none 0 0]) ti44 rfl (by intro u hu; simp only [List.mem_cons, List.not_mem_nil, or_false] at hu; rcases hu with rfl | rfl | rfl <;> rfl) (by repeat' first | exact Put.head | apply Put.tail) (by exact spl_all _ _ rfl) (by exact Nat.le_of_ble_eq_true rfl) ?_
      refine OW.q rfl rfl (yq_assign rfl (by (conv => lhs; whnf) <;> rfl)) ?_
      refine OW.nil ?_
      refine hK4 _ _ ?_
      refine CW.ret ?_
      refine then_ret ?_
      -- ret (ret)
      rw [tsign_bad (by omega)]
      refine fin2 (Or.inr rfl) rfl (rv_agg (vs := [.int .i64 0, .string (bs []), rowV none 0 0]) (by decide) (by (conv => lhs; whnf) <;> rfl) ti44 (by repeat' first | exact List.mem_cons_self .. | apply List.mem_cons_of_mem)) ⟨by decide, (by (conv => lhs; whnf) <;> rfl)⟩ (fun w hw => ?_)
      exact ⟨_, [.row none 0 0 25 32 []], rfl, nilrow_cl (hw.sub (List.nil_sublist _)) 25 32, _, rfl, none, 0, rfl, rfl⟩
    · obtain ⟨k, rfl⟩ : ∃ k : Nat, i = (k : Int) := ⟨i.toNat, by omega⟩
      have hin : ¬ ((k : Int) < 0 ∨ ((leavesL s).length : Int) ≤ (k : Int)) := by rw [leavesL_length]; omega
      have hPR := pathR_ok hin
      have hSR : signR s (k : Int) (hb h) = signB s k (hb h) := signR_ok (by omega)
      have hTS : tsign (some s) (k : Int) (hb h) = ((k : Int), signB s k (hb h), pathL (leavesL s) k, 0) := tsign_ok (by omega)
      refine CW.skip ?_
      refine hK2 _ _ ?_
      refine CW.seq_k fun K5 hK5 => ?_
      refine CW.region ?_
      refine OW.q rfl rfl (yq_move rfl (by (conv => lhs; whnf) <;> rfl)) ?_
      refine OW.q rfl rfl (yq_move rfl (by (conv => lhs; whnf) <;> rfl)) ?_
      refine OW.calln rfl rfl rfl (by (conv => lhs; whnf) <;> rfl) (.cons (by (conv => lhs; whnf) <;> rfl) (.cons (by (conv => lhs; whnf) <;> rfl) .nil)) en42 (fun w hw => rpath_calls (leavesL s) _ (k : Int) w (by rw [leavesL_length]; decide) (hs.mono hw) (by omega) (by omega)) ?_
      rintro _ _ ⟨_, rfl, a1, c1, rfl, rfl⟩
      rw [hPR]
      refine OW.q rfl rfl (yq_move rfl (by (conv => lhs; whnf) <;> rfl)) ?_
      refine OW.q rfl rfl (yq_extract rfl (by (conv => lhs; whnf) <;> rfl) rfl) ?_
      refine OW.q rfl rfl (yq_extract rfl (by (conv => lhs; whnf) <;> rfl) rfl) ?_
      refine OW.q rfl rfl (yq_assign rfl (by (conv => lhs; whnf) <;> rfl)) ?_
      refine OW.q rfl rfl (yq_assign rfl (by (conv => lhs; whnf) <;> rfl)) ?_
      refine OW.nil ?_
      refine hK5 _ _ ?_
      refine CW.seq_k fun K6 hK6 => ?_
      refine CW.region ?_
      refine OW.q rfl rfl (yq_move rfl (by (conv => lhs; whnf) <;> rfl)) ?_
      refine OW.q rfl rfl (yq_move rfl (by (conv => lhs; whnf) <;> rfl)) ?_
      refine OW.q rfl rfl (yq_move rfl (by (conv => lhs; whnf) <;> rfl)) ?_
      refine OW.q rfl rfl (yq_loadH rfl (by (conv => lhs; whnf) <;> rfl) ti25 (by repeat' first | exact List.mem_cons_self .. | apply List.mem_cons_of_mem)) ?_
      refine OW.q rfl rfl (yq_call rfl rfl (.cons (by (conv => lhs; whnf) <;> rfl) ( .cons (by (conv => lhs; whnf) <;> rfl) ( .cons (by (conv => lhs; whnf) <;> rfl) .nil))) en53 (fun w hw => hSR ▸ refsign_calls s (k : Int) h w hsl)) ?_
      refine OW.q rfl rfl (yq_move rfl (by (conv => lhs; whnf) <;> rfl)) ?_
      refine OW.q rfl rfl (yq_build (cs := [.int .i64 (k : Int), .string (bs (signB s k (hb h))), rowV a1 (pathL (leavesL s) k).length c1]) rfl rfl (by kernel_rfl)) ?_
      refine OW.store' rfl rfl rfl (by (conv => lhs; whnf) <;> rfl) (by (conv => lhs; whnf) <;> rfl) (vs := [.int .i64 (k : Int), .string (bs (signB s k (hb h))), rowV a1 (pathL (leavesL s) k).length c1]) ti44 rfl (by intro u hu; simp only [List.mem_cons, List.not_mem_nil, or_false] at hu; rcases hu with rfl | rfl | rfl <;> rfl) (by repeat' first | exact Put.head | apply Put.tail) (by exact spl_all _ _ rfl) (by exact Nat.le_of_ble_eq_true rfl) ?_
      refine OW.q rfl rfl (yq_assign rfl (by (conv => lhs; whnf) <;> rfl)) ?_
      refine OW.nil ?_
      refine hK6 _ _ ?_
      refine CW.ret ?_
      -- ret (ret)
      rw [hTS]
      refine fin2 (Or.inr rfl) rfl (rv_agg (vs := [.int .i64 (k : Int), .string (bs (signB s k (hb h))), rowV a1 (pathL (leavesL s) k).length c1]) (by decide) (by (conv => lhs; whnf) <;> rfl) ti44 (by repeat' first | exact List.mem_cons_self .. | apply List.mem_cons_of_mem)) ⟨by decide, (by (conv => lhs; whnf) <;> rfl)⟩ (fun w hw => ?_)
      exact ⟨_, [.row a1 c1 (pathL (leavesL s) k).length 25 32 ((pathL (leavesL s) k).flatMap hc)], rfl, hw.sub (by repeat' first | exact List.Sublist.refl _ | exact List.nil_sublist _ | apply List.Sublist.cons_cons | apply List.Sublist.cons), _, rfl, a1, c1, rfl, rfl⟩

set_option maxRecDepth 100000 in
set_option maxHeartbeats 1000000 in
theorem sameseal_calls (i1 i2 : Int) (s1 s2 : Bytes) (v1 v2 : Value) (p1 p2 : List Hash) (w : World) (hp : p1.length ≤ 4294967296) (h1 : HsAt w v1 p1) (h2 : HsAt w v2 p2) :
    Calls Tryd.prog 77 #[SealV i1 s1 v1, SealV i2 s2 v2] w fun e w' => e = .returned (.bool (decide (i1 = i2 ∧ s1 = s2 ∧ p1 = p2))) ∧ Cl w [] [] w' := by
  refine calls_of_CW (L := []) Tryd.func77 rfl (Nat.le_of_ble_eq_true rfl) (Cl.refl _) ?_
  refine CW.seq_k fun K1 hK1 => ?_
  refine CW.region ?_
  refine OW.box (cs := [.int .i64 i1, .string (bs s1), v1]) rfl rfl rfl (by (conv => lhs; whnf) <;> rfl) rfl (fun b2 => ?_)
  refine OW.box (cs := [.int .i64 i2, .string (bs s2), v2]) rfl rfl rfl (by (conv => lhs; whnf) <;> rfl) rfl (fun b3 => ?_)
  refine OW.q rfl rfl (yq_assign rfl (by (conv => lhs; whnf) <;> rfl)) ?_
  refine OW.nil ?_
  refine hK1 _ _ ?_
  refine CW.seq_k fun K2 hK2 => ?_
  refine CW.region ?_
  refine OW.q rfl rfl (yq_fieldAddr rfl (by (conv => lhs; whnf) <;> rfl) tf44_0 ti3) ?_
  refine OW.q rfl rfl (yq_load1 rfl (by (conv => lhs; whnf) <;> rfl) ti3 (by repeat' first | exact List.mem_cons_self .. | apply List.mem_cons_of_mem) (by rfl)) ?_
  refine OW.q rfl rfl (yq_fieldAddr rfl (by (conv => lhs; whnf) <;> rfl) tf44_0 ti3) ?_
  refine OW.q rfl rfl (yq_load1 rfl (by (conv => lhs; whnf) <;> rfl) ti3 (by repeat' first | exact List.mem_cons_self .. | apply List.mem_cons_of_mem) (by rfl)) ?_
  refine OW.qb rfl rfl (yq_eql rfl (by (conv => lhs; whnf) <;> rfl) (by (conv => lhs; whnf) <;> rfl)) (fun b9 hb9 => ?_)
  refine OW.q rfl rfl (yq_move rfl (by (conv => lhs; whnf) <;> rfl)) ?_
  apply OW.segAnd 6 [11, 12, 13, 14, 15] 16 hb9
  · intro hb9e
    refine QW.q (by subst hb9e; rfl) rfl (yq_fieldAddr rfl (by (conv => lhs; whnf) <;> rfl) tf44_1 ti9) ?_
    refine QW.q (by subst hb9e; rfl) rfl (yq_load1 rfl (by (conv => lhs; whnf) <;> rfl) ti9 (by repeat' first | exact List.mem_cons_self .. | apply List.mem_cons_of_mem) (by rfl)) ?_
    refine QW.q (by subst hb9e; rfl) rfl (yq_fieldAddr rfl (by (conv => lhs; whnf) <;> rfl) tf44_1 ti9) ?_
    refine QW.q (by subst hb9e; rfl) rfl (yq_load1 rfl (by (conv => lhs; whnf) <;> rfl) ti9 (by repeat' first | exact List.mem_cons_self .. | apply List.mem_cons_of_mem) (by rfl)) ?_
    refine QW.qb (by subst hb9e; rfl) rfl (yq_eql_bs rfl (by (conv => lhs; whnf) <;> rfl) (by (conv => lhs; whnf) <;> rfl)) (fun b15 hb15 => ?_)
    refine QW.q rfl rfl (yq_pick rfl (by (conv => lhs; whnf) <;> rfl) (by subst hb9e; ((conv => lhs; whnf) <;> rfl))) ?_
    exact QW.nil (SegM.mk (any_c (any_c (any_c (any_c (any_c any_n))))) (and_run hb9 hb9e hb15))
  · intro hb9e
    refine QW.skip (by subst hb9e; rfl) rfl ?_
    refine QW.skip (by subst hb9e; rfl) rfl ?_
    refine QW.skip (by subst hb9e; rfl) rfl ?_
    refine QW.skip (by subst hb9e; rfl) rfl ?_
    refine QW.skip (by subst hb9e; rfl) rfl ?_
    refine QW.q rfl rfl (yq_pick rfl (by (conv => lhs; whnf) <;> rfl) (by subst hb9e; ((conv => lhs; whnf) <;> rfl))) ?_
    exact QW.nil (SegM.mk (any_c (any_c (any_c (any_c (any_c any_n))))) (and_skip hb9 hb9e))
  · intro ρ16 b16 hA hb16
    obtain ⟨x11, x12, x13, x14, x15, rfl⟩ := hA
    refine OW.q rfl rfl (yq_move rfl (by (conv => lhs; whnf) <;> rfl)) ?_
    apply OW.segAnd 6 [18, 19, 20, 21, 22] 23 hb16
    · intro hb16e
      refine QW.q (by subst hb16e; rfl) rfl (yq_fieldAddr rfl (by (conv => lhs; whnf) <;> rfl) tf44_2 ti22) ?_
      refine QW.q (by subst hb16e; rfl) rfl (yq_load1 rfl (by (conv => lhs; whnf) <;> rfl) ti22 (by repeat' first | exact List.mem_cons_self .. | apply List.mem_cons_of_mem) (by rfl)) ?_
      refine QW.q (by subst hb16e; rfl) rfl (yq_fieldAddr rfl (by (conv => lhs; whnf) <;> rfl) tf44_2 ti22) ?_
      refine QW.q (by subst hb16e; rfl) rfl (yq_load1 rfl (by (conv => lhs; whnf) <;> rfl) ti22 (by repeat' first | exact List.mem_cons_self .. | apply List.mem_cons_of_mem) (by rfl)) ?_
      refine QW.qb (by subst hb16e; rfl) rfl (yq_call rfl rfl (.cons (by (conv => lhs; whnf) <;> rfl) (.cons (by (conv => lhs; whnf) <;> rfl) .nil)) en43 (fun w hw => same_calls p1 p2 _ _ w hp (h1.mono hw) (h2.mono hw))) (fun b22 hb22 => ?_)
      refine QW.q rfl rfl (yq_pick rfl (by (conv => lhs; whnf) <;> rfl) (by subst hb16e; ((conv => lhs; whnf) <;> rfl))) ?_
      exact QW.nil (SegM.mk (any_c (any_c (any_c (any_c (any_c any_n))))) (and_run hb16 hb16e hb22))
    · intro hb16e
      refine QW.skip (by subst hb16e; rfl) rfl ?_
      refine QW.skip (by subst hb16e; rfl) rfl ?_
      refine QW.skip (by subst hb16e; rfl) rfl ?_
      refine QW.skip (by subst hb16e; rfl) rfl ?_
      refine QW.skip (by subst hb16e; rfl) rfl ?_
      refine QW.q rfl rfl (yq_pick rfl (by (conv => lhs; whnf) <;> rfl) (by subst hb16e; ((conv => lhs; whnf) <;> rfl))) ?_
      exact QW.nil (SegM.mk (any_c (any_c (any_c (any_c (any_c any_n))))) (and_skip hb16 hb16e))
    · intro ρ23 b23 hA hb23
      obtain ⟨x18, x19, x20, x21, x22, rfl⟩ := hA
      refine OW.q rfl rfl (yq_assign rfl (by (conv => lhs; whnf) <;> rfl)) ?_
      refine OW.nil ?_
      refine hK2 _ _ ?_
      refine CW.ret ?_
      -- ret (ret)
      have hbe : b23 = decide (i1 = i2 ∧ s1 = s2 ∧ p1 = p2) := Bool.eq_iff_iff.2 (by rw [hb23, decide_eq_true_iff, and_assoc])
      subst hbe
      exact fin1 (Or.inr rfl) rfl ⟨by decide, (by (conv => lhs; whnf) <;> rfl)⟩ (fun w hw => ⟨rfl, hw.sub (List.nil_sublist _)⟩)

end Go.Proofs.YtahdekllphehkaaDoor

namespace Go.Proofs.YtahdekllphehkaaDoor
open Go.WL Go.Spec

/-- What is told of a signature of a digest by a key of a tree. -/
def verifyC (root d : Hash) (i : Int) (s : Bytes) (p : List Hash) : Int :=
  if i < 0 ∨ 8 ≤ i then 2 else if s.length = 16384 ∧ checkL (keyLeaf (recL s (hb d))) i 8 p root = 0 then 0 else 81
theorem verifyC_bad {root d : Hash} {i : Int} {s : Bytes} {p : List Hash} (h : i < 0 ∨ 8 ≤ i) : verifyC root d i s p = 2 := if_pos h
theorem verifyC_ok {root d : Hash} {i : Int} {s : Bytes} {p : List Hash} (h : ¬ (i < 0 ∨ 8 ≤ i)) (h1 : s.length = 16384) (h2 : checkL (keyLeaf (recL s (hb d))) i 8 p root = 0) : verifyC root d i s p = 0 := by unfold verifyC; rw [if_neg h, if_pos ⟨h1, h2⟩]
theorem verifyC_len {root d : Hash} {i : Int} {s : Bytes} {p : List Hash} (h : ¬ (i < 0 ∨ 8 ≤ i)) (h1 : s.length ≠ 16384) : verifyC root d i s p = 81 := by unfold verifyC; rw [if_neg h, if_neg fun e => h1 e.1]
theorem verifyC_not {root d : Hash} {i : Int} {s : Bytes} {p : List Hash} (h : ¬ (i < 0 ∨ 8 ≤ i)) (h2 : checkL (keyLeaf (recL s (hb d))) i 8 p root ≠ 0) : verifyC root d i s p = 81 := by unfold verifyC; rw [if_neg h, if_neg fun e => h2 e.2]

set_option maxRecDepth 100000 in
set_option maxHeartbeats 1000000 in
theorem verify_calls (root d : Hash) (i : Int) (s : Bytes) (v : Value) (p : List Hash) (w : World) (hs : s.length ≤ 9223372036854775807) (hp : p.length ≤ 4294967296) (hh : HsAt w v p) (hg : GL w) :
    Calls Tryd.prog 78 #[HV root, HV d, SealV i s v] w fun e w' => e = .returned (.int .i64 (verifyC root d i s p)) ∧ Cl w [] [] w' := by
  refine calls_of_CW (L := []) Tryd.func78 rfl (Nat.le_of_ble_eq_true rfl) (Cl.refl _) ?_
  refine CW.seq_k fun K1 hK1 => ?_
  refine CW.region ?_
  refine OW.box rfl rfl rfl (by (conv => lhs; whnf) <;> rfl) (by rfl) (fun b3 => ?_)
  refine OW.box rfl rfl rfl (by (conv => lhs; whnf) <;> rfl) (by rfl) (fun b4 => ?_)
  refine OW.box (cs := [.int .i64 i, .string (bs s), v]) rfl rfl rfl (by (conv => lhs; whnf) <;> rfl) rfl (fun b5 => ?_)
  refine OW.q rfl rfl (yq_assign rfl (by (conv => lhs; whnf) <;> rfl)) ?_
  refine OW.nil ?_
  refine hK1 _ _ ?_
  refine CW.seq_k fun K2 hK2 => ?_
  refine CW.seq_k fun K3 hK3 => ?_
  refine CW.region ?_
  refine OW.q rfl rfl (yq_fieldAddr rfl (by (conv => lhs; whnf) <;> rfl) tf44_0 ti3) ?_
  refine OW.q rfl rfl (yq_load1 rfl (by (conv => lhs; whnf) <;> rfl) ti3 (by repeat' first | exact List.mem_cons_self .. | apply List.mem_cons_of_mem) (by rfl)) ?_
  refine OW.qb rfl rfl (yq_lss rfl (by (conv => lhs; whnf) <;> rfl) (by (conv => lhs; whnf) <;> rfl)) (fun b11 hb11 => ?_)
  refine OW.q rfl rfl (yq_move rfl (by (conv => lhs; whnf) <;> rfl)) ?_
  apply OW.segOr 4 [13, 14, 15] 16 hb11
  · intro hb11e
    refine QW.q (by subst hb11e; rfl) rfl (yq_fieldAddr rfl (by (conv => lhs; whnf) <;> rfl) tf44_0 ti3) ?_
    refine QW.q (by subst hb11e; rfl) rfl (yq_load1 rfl (by (conv => lhs; whnf) <;> rfl) ti3 (by repeat' first | exact List.mem_cons_self .. | apply List.mem_cons_of_mem) (by rfl)) ?_
    refine QW.qb (by subst hb11e; rfl) rfl (yq_geq rfl (by (conv => lhs; whnf) <;> rfl) (by (conv => lhs; whnf) <;> rfl)) (fun b15 hb15 => ?_)
    refine QW.q rfl rfl (yq_pick rfl (by (conv => lhs; whnf) <;> rfl) (by subst hb11e; ((conv => lhs; whnf) <;> rfl))) ?_
    exact QW.nil (SegM.mk (any_c (any_c (any_c any_n))) (or_run hb11 hb11e hb15))
  · intro hb11e
    refine QW.skip (by subst hb11e; rfl) rfl ?_
    refine QW.skip (by subst hb11e; rfl) rfl ?_
    refine QW.skip (by subst hb11e; rfl) rfl ?_
    refine QW.q rfl rfl (yq_pick rfl (by (conv => lhs; whnf) <;> rfl) (by subst hb11e; ((conv => lhs; whnf) <;> rfl))) ?_
    exact QW.nil (SegM.mk (any_c (any_c (any_c any_n))) (or_skip hb11 hb11e))
  · intro ρ16 b16 hA hb16
    obtain ⟨x13, x14, x15, rfl⟩ := hA
    refine OW.nil ?_
    refine hK3 _ _ ?_
    refine CW.condq (by (conv => lhs; whnf) <;> rfl) hb16 (fun hc0 => ?_) (fun hc0 => ?_)
    · refine CW.seq_k fun K4 hK4 => ?_
      refine CW.region ?_
      refine OW.q rfl rfl (yq_assign rfl (by (conv => lhs; whnf) <;> rfl)) ?_
      refine OW.nil ?_
      refine hK4 _ _ ?_
      refine CW.ret ?_
      refine then_ret ?_
      -- ret (ret)
      rw [verifyC_bad (by omega)]
      exact fin1 (Or.inr rfl) rfl ⟨by decide, (by (conv => lhs; whnf) <;> rfl)⟩ (fun w hw => ⟨rfl, hw.sub (List.nil_sublist _)⟩)
    · refine CW.skip ?_
      refine hK2 _ _ ?_
      refine CW.seq_k fun K5 hK5 => ?_
      refine CW.region ?_
      rcases Decidable.em (s.length ≠ 16384) with hl | hl
      · refine OW.q rfl rfl (yq_fieldAddr rfl (by (conv => lhs; whnf) <;> rfl) tf44_1 ti9) ?_
        refine OW.q rfl rfl (yq_load1 rfl (by (conv => lhs; whnf) <;> rfl) ti9 (by repeat' first | exact List.mem_cons_self .. | apply List.mem_cons_of_mem) (by rfl)) ?_
        refine OW.q rfl rfl (yq_loadH rfl (by (conv => lhs; whnf) <;> rfl) ti25 (by repeat' first | exact List.mem_cons_self .. | apply List.mem_cons_of_mem)) ?_
        refine OW.q rfl rfl (yq_call rfl rfl (.cons (by (conv => lhs; whnf) <;> rfl) (.cons (by (conv => lhs; whnf) <;> rfl) .nil)) en56 (fun w hw => by have := recover_calls s d w (by omega) (Cl_gl0 hw hg); rwa [recV_bad hl] at this)) ?_
        refine OW.q rfl rfl (yq_move rfl (by (conv => lhs; whnf) <;> rfl)) ?_
        refine OW.q rfl rfl (yq_extract rfl (by (conv => lhs; whnf) <;> rfl) rfl) ?_
        refine OW.q rfl rfl (yq_extract rfl (by (conv => lhs; whnf) <;> rfl) rfl) ?_
        refine OW.alloc rfl rfl rfl tz25 (fun b7 => ?_)
        refine OW.storeH rfl rfl rfl (by (conv => lhs; whnf) <;> rfl) (by (conv => lhs; whnf) <;> rfl) ti25 (by repeat' first | exact Put.head | apply Put.tail) (hc_length _) ?_
        refine OW.q rfl rfl (yq_assign rfl (by (conv => lhs; whnf) <;> rfl)) ?_
        refine OW.nil ?_
        refine hK5 _ _ ?_
        refine CW.seq_k fun K6 hK6 => ?_
        refine CW.seq_k fun K7 hK7 => ?_
        refine CW.region ?_
        refine OW.q rfl rfl (yq_move rfl (by (conv => lhs; whnf) <;> rfl)) ?_
        refine OW.q rfl rfl ((yq_neq rfl (by (conv => lhs; whnf) <;> rfl) (by (conv => lhs; whnf) <;> rfl)).to (v' := .bool true) rfl) ?_
        refine OW.q rfl rfl (yq_move rfl (by (conv => lhs; whnf) <;> rfl)) ?_
        refine OW.skip rfl rfl ?_
        refine OW.skip rfl rfl ?_
        refine OW.skip rfl rfl ?_
        refine OW.skip rfl rfl ?_
        refine OW.skip rfl rfl ?_
        refine OW.skip rfl rfl ?_
        refine OW.skip rfl rfl ?_
        refine OW.skip rfl rfl ?_
        refine OW.q rfl rfl (yq_pick rfl (by (conv => lhs; whnf) <;> rfl) (by (conv => lhs; whnf) <;> rfl)) ?_
        refine OW.nil ?_
        refine hK7 _ _ ?_
        refine CW.cond_t (by (conv => lhs; whnf) <;> rfl) ?_
        refine CW.seq_k fun K8 hK8 => ?_
        refine CW.region ?_
        refine OW.q rfl rfl (yq_assign rfl (by (conv => lhs; whnf) <;> rfl)) ?_
        refine OW.nil ?_
        refine hK8 _ _ ?_
        refine CW.ret ?_
        refine then_ret ?_
        -- ret (ret)
        rw [verifyC_len (by omega) hl]
        exact fin1 (Or.inr rfl) rfl ⟨by decide, (by (conv => lhs; whnf) <;> rfl)⟩ (fun w hw => ⟨rfl, hw.sub (List.nil_sublist _)⟩)
      · have hl : s.length = 16384 := by omega
        refine OW.q rfl rfl (yq_fieldAddr rfl (by (conv => lhs; whnf) <;> rfl) tf44_1 ti9) ?_
        refine OW.q rfl rfl (yq_load1 rfl (by (conv => lhs; whnf) <;> rfl) ti9 (by repeat' first | exact List.mem_cons_self .. | apply List.mem_cons_of_mem) (by rfl)) ?_
        refine OW.q rfl rfl (yq_loadH rfl (by (conv => lhs; whnf) <;> rfl) ti25 (by repeat' first | exact List.mem_cons_self .. | apply List.mem_cons_of_mem)) ?_
        refine OW.q rfl rfl (yq_call rfl rfl (.cons (by (conv => lhs; whnf) <;> rfl) (.cons (by (conv => lhs; whnf) <;> rfl) .nil)) en56 (fun w hw => by have := recover_calls s d w (by omega) (Cl_gl0 hw hg); rwa [recV_ok hl] at this)) ?_
        refine OW.q rfl rfl (yq_move rfl (by (conv => lhs; whnf) <;> rfl)) ?_
        refine OW.q rfl rfl (yq_extract rfl (by (conv => lhs; whnf) <;> rfl) rfl) ?_
        refine OW.q rfl rfl (yq_extract rfl (by (conv => lhs; whnf) <;> rfl) rfl) ?_
        refine OW.alloc rfl rfl rfl tz25 (fun b7 => ?_)
        refine OW.storeH rfl rfl rfl (by (conv => lhs; whnf) <;> rfl) (by (conv => lhs; whnf) <;> rfl) ti25 (by repeat' first | exact Put.head | apply Put.tail) (hc_length _) ?_
        refine OW.q rfl rfl (yq_assign rfl (by (conv => lhs; whnf) <;> rfl)) ?_
        refine OW.nil ?_
        refine hK5 _ _ ?_
        refine CW.seq_k fun K9 hK9 => ?_
        refine CW.seq_k fun K10 hK10 => ?_
        refine CW.region ?_
        refine OW.q rfl rfl (yq_move rfl (by (conv => lhs; whnf) <;> rfl)) ?_
        refine OW.q rfl rfl ((yq_neq rfl (by (conv => lhs; whnf) <;> rfl) (by (conv => lhs; whnf) <;> rfl)).to (v' := .bool false) rfl) ?_
        refine OW.q rfl rfl (yq_move rfl (by (conv => lhs; whnf) <;> rfl)) ?_
        refine OW.q rfl rfl (yq_loadH rfl (by (conv => lhs; whnf) <;> rfl) ti25 (by repeat' first | exact List.mem_cons_self .. | apply List.mem_cons_of_mem)) ?_
        refine OW.q rfl rfl (yq_fieldAddr rfl (by (conv => lhs; whnf) <;> rfl) tf44_0 ti3) ?_
        refine OW.q rfl rfl (yq_load1 rfl (by (conv => lhs; whnf) <;> rfl) ti3 (by repeat' first | exact List.mem_cons_self .. | apply List.mem_cons_of_mem) (by rfl)) ?_
        refine OW.q rfl rfl (yq_fieldAddr rfl (by (conv => lhs; whnf) <;> rfl) tf44_2 ti22) ?_
        refine OW.q rfl rfl (yq_load1 rfl (by (conv => lhs; whnf) <;> rfl) ti22 (by repeat' first | exact List.mem_cons_self .. | apply List.mem_cons_of_mem) (by rfl)) ?_
        refine OW.q rfl rfl (yq_loadH rfl (by (conv => lhs; whnf) <;> rfl) ti25 (by repeat' first | exact List.mem_cons_self .. | apply List.mem_cons_of_mem)) ?_
        refine OW.q rfl rfl (yq_call rfl rfl (.cons (by (conv => lhs; whnf) <;> rfl) ( .cons (by (conv => lhs; whnf) <;> rfl) ( .cons (by (conv => lhs; whnf) <;> rfl) ( .cons (by (conv => lhs; whnf) <;> rfl) ( .cons (by (conv => lhs; whnf) <;> rfl) .nil))))) en49 (fun w hw => check_calls _ root i 8 p _ w hp (hh.mono hw) (Cl_gl0 hw hg))) ?_
        refine OW.qb rfl rfl (yq_neq rfl (by (conv => lhs; whnf) <;> rfl) (by (conv => lhs; whnf) <;> rfl)) (fun b34 hb34 => ?_)
        refine OW.q rfl rfl (yq_pick rfl (by (conv => lhs; whnf) <;> rfl) (by (conv => lhs; whnf) <;> rfl)) ?_
        refine OW.nil ?_
        refine hK10 _ _ ?_
        refine CW.condq (by (conv => lhs; whnf) <;> rfl) hb34 (fun hc1 => ?_) (fun hc1 => ?_)
        · refine CW.seq_k fun K11 hK11 => ?_
          refine CW.region ?_
          refine OW.q rfl rfl (yq_assign rfl (by (conv => lhs; whnf) <;> rfl)) ?_
          refine OW.nil ?_
          refine hK11 _ _ ?_
          refine CW.ret ?_
          refine then_ret ?_
          -- ret (ret)
          rw [verifyC_not (by omega) hc1]
          exact fin1 (Or.inr rfl) rfl ⟨by decide, (by (conv => lhs; whnf) <;> rfl)⟩ (fun w hw => ⟨rfl, hw.sub (List.nil_sublist _)⟩)
        · refine CW.skip ?_
          refine hK9 _ _ ?_
          refine CW.seq_k fun K12 hK12 => ?_
          refine CW.region ?_
          refine OW.q rfl rfl (yq_assign rfl (by (conv => lhs; whnf) <;> rfl)) ?_
          refine OW.nil ?_
          refine hK12 _ _ ?_
          refine CW.ret ?_
          -- ret (ret)
          rw [verifyC_ok (by omega) hl (by omega)]
          exact fin1 (Or.inr rfl) rfl ⟨by decide, (by (conv => lhs; whnf) <;> rfl)⟩ (fun w hw => ⟨rfl, hw.sub (List.nil_sublist _)⟩)

set_option maxRecDepth 100000 in
set_option maxHeartbeats 1000000 in
theorem refverify_calls (root d : Hash) (i : Int) (s : Bytes) (v : Value) (p : List Hash) (w : World) (hs : s.length ≤ 9223372036854775807) (hp : p.length ≤ 4294967296) (hh : HsAt w v p) :
    Calls Tryd.prog 79 #[HV root, HV d, SealV i s v] w fun e w' => e = .returned (.int .i64 (verifyC root d i s p)) ∧ Cl w [] [] w' := by
  refine calls_of_CW (L := []) Tryd.func79 rfl (Nat.le_of_ble_eq_true rfl) (Cl.refl _) ?_
  refine CW.seq_k fun K1 hK1 => ?_
  refine CW.region ?_
  refine OW.box rfl rfl rfl (by (conv => lhs; whnf) <;> rfl) (by rfl) (fun b3 => ?_)
  refine OW.box rfl rfl rfl (by (conv => lhs; whnf) <;> rfl) (by rfl) (fun b4 => ?_)
  refine OW.box (cs := [.int .i64 i, .string (bs s), v]) rfl rfl rfl (by (conv => lhs; whnf) <;> rfl) rfl (fun b5 => ?_)
  refine OW.q rfl rfl (yq_assign rfl (by (conv => lhs; whnf) <;> rfl)) ?_
  refine OW.nil ?_
  refine hK1 _ _ ?_
  refine CW.seq_k fun K2 hK2 => ?_
  refine CW.seq_k fun K3 hK3 => ?_
  refine CW.region ?_
  refine OW.q rfl rfl (yq_fieldAddr rfl (by (conv => lhs; whnf) <;> rfl) tf44_0 ti3) ?_
  refine OW.q rfl rfl (yq_load1 rfl (by (conv => lhs; whnf) <;> rfl) ti3 (by repeat' first | exact List.mem_cons_self .. | apply List.mem_cons_of_mem) (by rfl)) ?_
  refine OW.qb rfl rfl (yq_lss rfl (by (conv => lhs; whnf) <;> rfl) (by (conv => lhs; whnf) <;> rfl)) (fun b11 hb11 => ?_)
  refine OW.q rfl rfl (yq_move rfl (by (conv => lhs; whnf) <;> rfl)) ?_
  apply OW.segOr 4 [13, 14, 15] 16 hb11
  · intro hb11e
    refine QW.q (by subst hb11e; rfl) rfl (yq_fieldAddr rfl (by (conv => lhs; whnf) <;> rfl) tf44_0 ti3) ?_
    refine QW.q (by subst hb11e; rfl) rfl (yq_load1 rfl (by (conv => lhs; whnf) <;> rfl) ti3 (by repeat' first | exact List.mem_cons_self .. | apply List.mem_cons_of_mem) (by rfl)) ?_
    refine QW.qb (by subst hb11e; rfl) rfl (yq_gtr rfl (by (conv => lhs; whnf) <;> rfl) (by (conv => lhs; whnf) <;> rfl)) (fun b15 hb15 => ?_)
    refine QW.q rfl rfl (yq_pick rfl (by (conv => lhs; whnf) <;> rfl) (by subst hb11e; ((conv => lhs; whnf) <;> rfl))) ?_
    exact QW.nil (SegM.mk (any_c (any_c (any_c any_n))) (or_run hb11 hb11e hb15))
  · intro hb11e
    refine QW.skip (by subst hb11e; rfl) rfl ?_
    refine QW.skip (by subst hb11e; rfl) rfl ?_
    refine QW.skip (by subst hb11e; rfl) rfl ?_
    refine QW.q rfl rfl (yq_pick rfl (by (conv => lhs; whnf) <;> rfl) (by subst hb11e; ((conv => lhs; whnf) <;> rfl))) ?_
    exact QW.nil (SegM.mk (any_c (any_c (any_c any_n))) (or_skip hb11 hb11e))
  · intro ρ16 b16 hA hb16
    obtain ⟨x13, x14, x15, rfl⟩ := hA
    refine OW.nil ?_
    refine hK3 _ _ ?_
    refine CW.condq (by (conv => lhs; whnf) <;> rfl) hb16 (fun hc0 => ?_) (fun hc0 => ?_)
    · refine CW.seq_k fun K4 hK4 => ?_
      refine CW.region ?_
      refine OW.q rfl rfl (yq_assign rfl (by (conv => lhs; whnf) <;> rfl)) ?_
      refine OW.nil ?_
      refine hK4 _ _ ?_
      refine CW.ret ?_
      refine then_ret ?_
      -- ret (ret)
      rw [verifyC_bad (by omega)]
      exact fin1 (Or.inr rfl) rfl ⟨by decide, (by (conv => lhs; whnf) <;> rfl)⟩ (fun w hw => ⟨rfl, hw.sub (List.nil_sublist _)⟩)
    · refine CW.skip ?_
      refine hK2 _ _ ?_
      refine CW.seq_k fun K5 hK5 => ?_
      refine CW.region ?_
      rcases Decidable.em (s.length ≠ 16384) with hl | hl
      · refine OW.q rfl rfl (yq_fieldAddr rfl (by (conv => lhs; whnf) <;> rfl) tf44_1 ti9) ?_
        refine OW.q rfl rfl (yq_load1 rfl (by (conv => lhs; whnf) <;> rfl) ti9 (by repeat' first | exact List.mem_cons_self .. | apply List.mem_cons_of_mem) (by rfl)) ?_
        refine OW.q rfl rfl (yq_loadH rfl (by (conv => lhs; whnf) <;> rfl) ti25 (by repeat' first | exact List.mem_cons_self .. | apply List.mem_cons_of_mem)) ?_
        refine OW.q rfl rfl (yq_call rfl rfl (.cons (by (conv => lhs; whnf) <;> rfl) (.cons (by (conv => lhs; whnf) <;> rfl) .nil)) en57 (fun w hw => by have := refrecover_calls s d w (by omega); rwa [recV_bad hl] at this)) ?_
        refine OW.q rfl rfl (yq_move rfl (by (conv => lhs; whnf) <;> rfl)) ?_
        refine OW.q rfl rfl (yq_extract rfl (by (conv => lhs; whnf) <;> rfl) rfl) ?_
        refine OW.q rfl rfl (yq_extract rfl (by (conv => lhs; whnf) <;> rfl) rfl) ?_
        refine OW.alloc rfl rfl rfl tz25 (fun b7 => ?_)
        refine OW.storeH rfl rfl rfl (by (conv => lhs; whnf) <;> rfl) (by (conv => lhs; whnf) <;> rfl) ti25 (by repeat' first | exact Put.head | apply Put.tail) (hc_length _) ?_
        refine OW.q rfl rfl (yq_assign rfl (by (conv => lhs; whnf) <;> rfl)) ?_
        refine OW.nil ?_
        refine hK5 _ _ ?_
        refine CW.seq_k fun K6 hK6 => ?_
        refine CW.seq_k fun K7 hK7 => ?_
        refine CW.region ?_
        refine OW.q rfl rfl (yq_move rfl (by (conv => lhs; whnf) <;> rfl)) ?_
        refine OW.q rfl rfl ((yq_eql rfl (by (conv => lhs; whnf) <;> rfl) (by (conv => lhs; whnf) <;> rfl)).to (v' := .bool false) rfl) ?_
        refine OW.q rfl rfl (yq_move rfl (by (conv => lhs; whnf) <;> rfl)) ?_
        refine OW.skip rfl rfl ?_
        refine OW.skip rfl rfl ?_
        refine OW.skip rfl rfl ?_
        refine OW.skip rfl rfl ?_
        refine OW.skip rfl rfl ?_
        refine OW.skip rfl rfl ?_
        refine OW.skip rfl rfl ?_
        refine OW.skip rfl rfl ?_
        refine OW.q rfl rfl (yq_pick rfl (by (conv => lhs; whnf) <;> rfl) (by (conv => lhs; whnf) <;> rfl)) ?_
        refine OW.nil ?_
        refine hK7 _ _ ?_
        refine CW.cond_f (by (conv => lhs; whnf) <;> rfl) ?_
        refine CW.skip ?_
        refine hK6 _ _ ?_
        refine CW.seq_k fun K8 hK8 => ?_
        refine CW.region ?_
        refine OW.q rfl rfl (yq_assign rfl (by (conv => lhs; whnf) <;> rfl)) ?_
        refine OW.nil ?_
        refine hK8 _ _ ?_
        refine CW.ret ?_
        -- ret (ret)
        rw [verifyC_len (by omega) hl]
        exact fin1 (Or.inr rfl) rfl ⟨by decide, (by (conv => lhs; whnf) <;> rfl)⟩ (fun w hw => ⟨rfl, hw.sub (List.nil_sublist _)⟩)
      · have hl : s.length = 16384 := by omega
        refine OW.q rfl rfl (yq_fieldAddr rfl (by (conv => lhs; whnf) <;> rfl) tf44_1 ti9) ?_
        refine OW.q rfl rfl (yq_load1 rfl (by (conv => lhs; whnf) <;> rfl) ti9 (by repeat' first | exact List.mem_cons_self .. | apply List.mem_cons_of_mem) (by rfl)) ?_
        refine OW.q rfl rfl (yq_loadH rfl (by (conv => lhs; whnf) <;> rfl) ti25 (by repeat' first | exact List.mem_cons_self .. | apply List.mem_cons_of_mem)) ?_
        refine OW.q rfl rfl (yq_call rfl rfl (.cons (by (conv => lhs; whnf) <;> rfl) (.cons (by (conv => lhs; whnf) <;> rfl) .nil)) en57 (fun w hw => by have := refrecover_calls s d w (by omega); rwa [recV_ok hl] at this)) ?_
        refine OW.q rfl rfl (yq_move rfl (by (conv => lhs; whnf) <;> rfl)) ?_
        refine OW.q rfl rfl (yq_extract rfl (by (conv => lhs; whnf) <;> rfl) rfl) ?_
        refine OW.q rfl rfl (yq_extract rfl (by (conv => lhs; whnf) <;> rfl) rfl) ?_
        refine OW.alloc rfl rfl rfl tz25 (fun b7 => ?_)
        refine OW.storeH rfl rfl rfl (by (conv => lhs; whnf) <;> rfl) (by (conv => lhs; whnf) <;> rfl) ti25 (by repeat' first | exact Put.head | apply Put.tail) (hc_length _) ?_
        refine OW.q rfl rfl (yq_assign rfl (by (conv => lhs; whnf) <;> rfl)) ?_
        refine OW.nil ?_
        refine hK5 _ _ ?_
        refine CW.seq_k fun K9 hK9 => ?_
        refine CW.seq_k fun K10 hK10 => ?_
        refine CW.region ?_
        refine OW.q rfl rfl (yq_move rfl (by (conv => lhs; whnf) <;> rfl)) ?_
        refine OW.q rfl rfl ((yq_eql rfl (by (conv => lhs; whnf) <;> rfl) (by (conv => lhs; whnf) <;> rfl)).to (v' := .bool true) rfl) ?_
        refine OW.q rfl rfl (yq_move rfl (by (conv => lhs; whnf) <;> rfl)) ?_
        refine OW.q rfl rfl (yq_loadH rfl (by (conv => lhs; whnf) <;> rfl) ti25 (by repeat' first | exact List.mem_cons_self .. | apply List.mem_cons_of_mem)) ?_
        refine OW.q rfl rfl (yq_fieldAddr rfl (by (conv => lhs; whnf) <;> rfl) tf44_0 ti3) ?_
        refine OW.q rfl rfl (yq_load1 rfl (by (conv => lhs; whnf) <;> rfl) ti3 (by repeat' first | exact List.mem_cons_self .. | apply List.mem_cons_of_mem) (by rfl)) ?_
        refine OW.q rfl rfl (yq_fieldAddr rfl (by (conv => lhs; whnf) <;> rfl) tf44_2 ti22) ?_
        refine OW.q rfl rfl (yq_load1 rfl (by (conv => lhs; whnf) <;> rfl) ti22 (by repeat' first | exact List.mem_cons_self .. | apply List.mem_cons_of_mem) (by rfl)) ?_
        refine OW.q rfl rfl (yq_loadH rfl (by (conv => lhs; whnf) <;> rfl) ti25 (by repeat' first | exact List.mem_cons_self .. | apply List.mem_cons_of_mem)) ?_
        refine OW.q rfl rfl (yq_call rfl rfl (.cons (by (conv => lhs; whnf) <;> rfl) ( .cons (by (conv => lhs; whnf) <;> rfl) ( .cons (by (conv => lhs; whnf) <;> rfl) ( .cons (by (conv => lhs; whnf) <;> rfl) ( .cons (by (conv => lhs; whnf) <;> rfl) .nil))))) en50 (fun w hw => rcheck_calls _ root i 8 p _ w hp (hh.mono hw))) ?_
        refine OW.qb rfl rfl (yq_eql rfl (by (conv => lhs; whnf) <;> rfl) (by (conv => lhs; whnf) <;> rfl)) (fun b34 hb34 => ?_)
        refine OW.q rfl rfl (yq_pick rfl (by (conv => lhs; whnf) <;> rfl) (by (conv => lhs; whnf) <;> rfl)) ?_
        refine OW.nil ?_
        refine hK10 _ _ ?_
        refine CW.condq (by (conv => lhs; whnf) <;> rfl) hb34 (fun hc1 => ?_) (fun hc1 => ?_)
        · refine CW.seq_k fun K11 hK11 => ?_
          refine CW.region ?_
          refine OW.q rfl rfl (yq_assign rfl (by (conv => lhs; whnf) <;> rfl)) ?_
          refine OW.nil ?_
          refine hK11 _ _ ?_
          refine CW.ret ?_
          refine then_ret ?_
          -- ret (ret)
          rw [verifyC_ok (by omega) hl hc1]
          exact fin1 (Or.inr rfl) rfl ⟨by decide, (by (conv => lhs; whnf) <;> rfl)⟩ (fun w hw => ⟨rfl, hw.sub (List.nil_sublist _)⟩)
        · refine CW.skip ?_
          refine hK9 _ _ ?_
          refine CW.seq_k fun K12 hK12 => ?_
          refine CW.region ?_
          refine OW.q rfl rfl (yq_assign rfl (by (conv => lhs; whnf) <;> rfl)) ?_
          refine OW.nil ?_
          refine hK12 _ _ ?_
          refine CW.ret ?_
          -- ret (ret)
          rw [verifyC_not (by omega) hc1]
          exact fin1 (Or.inr rfl) rfl ⟨by decide, (by (conv => lhs; whnf) <;> rfl)⟩ (fun w hw => ⟨rfl, hw.sub (List.nil_sublist _)⟩)

end Go.Proofs.YtahdekllphehkaaDoor

namespace Go.Proofs.YtahdekllphehkaaDoor
open Go.WL Go.Spec

theorem sp8 : sp 8 = 4 := by rw [sp_dec]; decide
theorem rootL_four (a b c d : Hash) : rootL [a, b, c, d] = node (node a b) (node c d) := by
  rw [rootL_more _ (by simp), show ([a, b, c, d] : List Hash).length = 4 from rfl, sp4]
  show node (rootL [a, b]) (rootL [c, d]) = _
  rw [rootL_two, rootL_two]
theorem rootL_eight (a b c d e f g h : Hash) : rootL [a, b, c, d, e, f, g, h] = node (node (node a b) (node c d)) (node (node e f) (node g h)) := by
  rw [rootL_more _ (by simp), show ([a, b, c, d, e, f, g, h] : List Hash).length = 8 from rfl, sp8]
  show node (rootL [a, b, c, d]) (rootL [e, f, g, h]) = _
  rw [rootL_four, rootL_four]
theorem path8_3 (a b c d e f g h : Hash) : pathL [a, b, c, d, e, f, g, h] 3 = [c, node a b, node (node e f) (node g h)] := by
  have e8 : sp ([a, b, c, d, e, f, g, h] : List Hash).length = 4 := sp8
  rw [pathL_left (by simp) (by rw [e8]; decide), e8]
  show pathL [a, b, c, d] 3 ++ [rootL [e, f, g, h]] = _
  have e4 : sp ([a, b, c, d] : List Hash).length = 2 := sp4
  rw [pathL_right (by simp) (by rw [e4]; decide), e4]
  show (pathL [c, d] 1 ++ [rootL [a, b]]) ++ [rootL [e, f, g, h]] = _
  have e2 : sp ([c, d] : List Hash).length = 1 := sp2
  rw [pathL_right (by simp) (by rw [e2]; decide), e2]
  show ((pathL [d] 0 ++ [rootL [c]]) ++ [rootL [a, b]]) ++ [rootL [e, f, g, h]] = _
  rw [pathL_small _ (by simp), rootL_one, rootL_two, rootL_four]; rfl
theorem come8 (x a b c r : Hash) : comeR x 3 8 [r, node a b, c] = some (node (node (node a b) (node c x)) r) := by
  rw [comeR, if_neg (by decide), if_pos (by rw [sp8]; decide), sp8, comeR, if_neg (by decide), if_neg (by rw [sp4]; decide), sp4, comeR, if_neg (by decide), if_neg (by rw [sp2]; decide), sp2, comeR, if_pos rfl]
  rfl
theorem check8 (x a b c d e f g h : Hash) (hne : node (node (node a b) (node c x)) (node (node e f) (node g h)) ≠ node (node (node a b) (node c d)) (node (node e f) (node g h))) :
    checkL x 3 8 (pathL [a, b, c, d, e, f, g, h] 3) (rootL [a, b, c, d, e, f, g, h]) ≠ 0 := by
  rw [show (3 : Int) = ((3 : Nat) : Int) from rfl, show (8 : Int) = ((8 : Nat) : Int) from rfl, checkL_in (by decide), path8_3, rootL_eight]
  rw [show [c, node a b, node (node e f) (node g h)].reverse = [node (node e f) (node g h), node a b, c] from rfl, come8, if_neg (by rw [Option.some.injEq]; exact hne)]
  decide
theorem hN_nodeK (a b : Hash) : hN (node a b) = nodeK (hN a) (hN b) := by rw [hN_node]; rfl
def dOne : Hash := hashOf ([1] ++ List.replicate 31 0) rfl
def dTwo : Hash := hashOf ([1, 2] ++ List.replicate 30 0) rfl
def swN (k : Nat) : Nat := if k = 28 then 29 else if k = 29 then 28 else k
theorem bits_same : ∀ i, i < 256 → i ≠ 14 → bitB (hb dOne) i = bitB (hb dTwo) i := by decide +kernel
theorem bit_one : bitB (hb dOne) 14 = 0 := by decide +kernel
theorem bit_two : bitB (hb dTwo) 14 = 1 := by decide +kernel
theorem rec_other (seed : Bytes) (n : Nat) : recL (signB seed n (hb dTwo)) (hb dOne) = (List.range 512).map fun k => pubL seed n (swN k) := by
  unfold recL
  refine List.map_congr_left fun k hk => ?_
  have hk : k < 512 := List.mem_range.1 hk
  have hb1 := bitB_lt (hb dOne) (k / 2)
  unfold recK
  rw [cut_signA _ _ _ _ (by omega), cut_signO _ _ _ _ (by omega), toH_hb, ← pubL_eq]
  by_cases h14 : k / 2 = 14
  · rw [h14, bit_one, bit_two]
    rcases (by omega : k = 28 ∨ k = 29) with rfl | rfl
    · rw [if_pos (by decide)]; rfl
    · rw [if_neg (by decide)]; rfl
  · rw [← bits_same (k / 2) (by omega) h14]
    have hs : swN k = k := by unfold swN; rw [if_neg (by omega), if_neg (by omega)]
    rw [hs]
    by_cases h : k % 2 = bitB (hb dOne) (k / 2)
    · rw [if_pos h, ← h, show 2 * (k / 2) + k % 2 = k by omega]
    · rw [if_neg h, show 2 * (k / 2) + 1 - bitB (hb dOne) (k / 2) = k by omega]
theorem keyN (i : Nat) (hi : i < 4294967296) : hN (keyH [97] i) = keyK (pubK 2 353 i) := by
  have := keyK_key [97] i hi (by rw [textA]; decide)
  rw [textA] at this
  exact this.symm
theorem keyNs : hN (keyLeaf (recL (signB [97] 3 (hb dTwo)) (hb dOne))) = keyK (fun k => pubK 2 353 3 (swN k)) := by
  rw [rec_other]
  refine (keyK_eq _ _ fun i h => ?_).symm
  have h2 : swN i < 512 := by unfold swN; split <;> (try split) <;> omega
  have := pubK_eq [97] 3 (swN i) (by decide) (by omega) (by rw [textA]; decide)
  rw [textA] at this
  exact this
/-- Another digest is not signed. -/
def Other : Prop := checkL (keyLeaf (recL (signB [97] 3 (hb dTwo)) (hb dOne))) 3 8 (pathL (leavesL [97]) 3) (rootL (leavesL [97])) ≠ 0
theorem leaves8 (s : Bytes) : leavesL s = [keyH s 0, keyH s 1, keyH s 2, keyH s 3, keyH s 4, keyH s 5, keyH s 6, keyH s 7] := rfl
theorem other_of (v0 v1 v2 v3 v4 v5 v6 v7 vs : Nat) (h0 : keyK (pubK 2 353 0) = v0) (h1 : keyK (pubK 2 353 1) = v1) (h2 : keyK (pubK 2 353 2) = v2) (h3 : keyK (pubK 2 353 3) = v3) (h4 : keyK (pubK 2 353 4) = v4) (h5 : keyK (pubK 2 353 5) = v5) (h6 : keyK (pubK 2 353 6) = v6) (h7 : keyK (pubK 2 353 7) = v7)
    (hs : keyK (fun k => pubK 2 353 3 (swN k)) = vs) (hne : nodeK (nodeK (nodeK v0 v1) (nodeK v2 vs)) (nodeK (nodeK v4 v5) (nodeK v6 v7)) ≠ nodeK (nodeK (nodeK v0 v1) (nodeK v2 v3)) (nodeK (nodeK v4 v5) (nodeK v6 v7))) : Other := by
  unfold Other
  rw [leaves8]
  refine check8 _ _ _ _ _ _ _ _ _ (hN_inj ?_)
  simp only [hN_nodeK, keyNs, keyN 0 (by decide), keyN 1 (by decide), keyN 2 (by decide), keyN 3 (by decide), keyN 4 (by decide), keyN 5 (by decide), keyN 6 (by decide), keyN 7 (by decide), h0, h1, h2, h3, h4, h5, h6, h7, hs]
  exact hne
attribute [irreducible] dOne dTwo
end Go.Proofs.YtahdekllphehkaaDoor

namespace Go.Proofs.YtahdekllphehkaaDoor
open Go.WL Go.Spec

theorem pl_bad : tsign (some [97]) 8 (hb dTwo) = (0, [], [], 2) := tsign_bad (by decide)
theorem pl_ok : tsign (some [97]) 3 (hb dTwo) = (3, signB [97] 3 (hb dTwo), pathL (leavesL [97]) 3, 0) := tsign_ok (by decide)
theorem pl_len : (pathL (leavesL [97]) 3).length = 3 := by rw [leaves8, path8_3]; rfl
theorem pl_own : verifyC (rootL (leavesL [97])) dTwo 3 (signB [97] 3 (hb dTwo)) (pathL (leavesL [97]) 3) = 0 := by
  refine verifyC_ok (by decide) (signB_length _ _ _) ?_
  rw [rec_sign]
  have := check_own (leavesL [97]) 3 (by rw [leavesL_length]; decide) (by rw [leavesL_length]; decide)
  rw [leavesL_length] at this
  exact this
theorem pl_other (ho : Other) : verifyC (rootL (leavesL [97])) dOne 3 (signB [97] 3 (hb dTwo)) (pathL (leavesL [97]) 3) = 81 := verifyC_not (by decide) ho
theorem ls97 : ∀ s, some ([97] : Bytes) = some s → s.length ≤ 4294967200 := fun s e => by cases e; decide

set_option maxRecDepth 100000 in
set_option maxHeartbeats 1000000 in
theorem planted_calls (ho : Other) (w : World) (hg : GL w) : Calls Tryd.prog 71 #[] w fun e w' => e = .returned (.bool true) ∧ Cl w [] [] w' := by
  refine calls_of_CW (L := []) Tryd.func71 rfl (Nat.le_of_ble_eq_true rfl) (Cl.refl _) ?_
  refine CW.seq_k fun K1 hK1 => ?_
  refine CW.region ?_
  refine OW.q rfl rfl (yq_assign rfl (by (conv => lhs; whnf) <;> rfl)) ?_
  refine OW.nil ?_
  refine hK1 _ _ ?_
  refine CW.seq_k fun K2 hK2 => ?_
  refine CW.region ?_
  refine OW.calln rfl rfl rfl (by (conv => lhs; whnf) <;> rfl) (.cons (by (conv => lhs; whnf) <;> rfl) .nil) en72 (fun w hw => tnew_calls [97] w (by decide) (Cl_gl0 hw hg)) ?_
  rintro _ _ ⟨bt, rfl, rfl⟩
  refine OW.q rfl rfl (yq_assign rfl (by (conv => lhs; whnf) <;> rfl)) ?_
  refine OW.nil ?_
  refine hK2 _ _ ?_
  refine CW.seq_k fun K3 hK3 => ?_
  refine CW.region ?_
  refine OW.q rfl rfl (yq_build (cs := hc dTwo) rfl rfl (by unfold dTwo; kernel_rfl)) ?_
  refine OW.alloc rfl rfl rfl tz25 (fun b2 => ?_)
  refine OW.storeH rfl rfl rfl (by (conv => lhs; whnf) <;> rfl) (by (conv => lhs; whnf) <;> rfl) ti25 (by repeat' first | exact Put.head | apply Put.tail) (hc_length _) ?_
  refine OW.nil ?_
  refine hK3 _ _ ?_
  refine CW.seq_k fun K4 hK4 => ?_
  refine CW.region ?_
  refine OW.q rfl rfl (yq_move rfl (by (conv => lhs; whnf) <;> rfl)) ?_
  refine OW.q rfl rfl (yq_loadH rfl (by (conv => lhs; whnf) <;> rfl) ti25 (by repeat' first | exact List.mem_cons_self .. | apply List.mem_cons_of_mem)) ?_
  refine OW.calln rfl rfl rfl (by (conv => lhs; whnf) <;> rfl) (.cons (by (conv => lhs; whnf) <;> rfl) (.cons (by (conv => lhs; whnf) <;> rfl) (.cons (by (conv => lhs; whnf) <;> rfl) .nil))) en75 (fun w hw => tsign_calls _ (some [97]) 8 dTwo w (tree_blk hw (by repeat' first | exact List.mem_cons_self .. | apply List.mem_cons_of_mem)) ls97 (by decide) (by decide) (Cl_gl0 hw hg)) ?_
  rw [pl_bad]
  rintro _ _ ⟨_, rfl, a1, c1, rfl, rfl⟩
  refine OW.q rfl rfl (yq_move rfl (by (conv => lhs; whnf) <;> rfl)) ?_
  refine OW.q rfl rfl (yq_extract rfl (by (conv => lhs; whnf) <;> rfl) rfl) ?_
  refine OW.q rfl rfl (yq_extract rfl (by (conv => lhs; whnf) <;> rfl) rfl) ?_
  refine OW.alloc rfl rfl rfl tz44 (fun b3 => ?_)
  refine OW.store' rfl rfl rfl (by (conv => lhs; whnf) <;> rfl) (by (conv => lhs; whnf) <;> rfl) (vs := [.int .i64 0, .string (bs []), rowV a1 0 c1]) ti44 rfl (by intro u hu; simp only [List.mem_cons, List.not_mem_nil, or_false] at hu; rcases hu with rfl | rfl | rfl <;> rfl) (by repeat' first | exact Put.head | apply Put.tail) (by exact spl_all _ _ rfl) (by exact Nat.le_of_ble_eq_true rfl) ?_
  refine OW.q rfl rfl (yq_assign rfl (by (conv => lhs; whnf) <;> rfl)) ?_
  refine OW.nil ?_
  refine hK4 _ _ ?_
  refine CW.seq_k fun K5 hK5 => ?_
  refine CW.region ?_
  refine OW.q rfl rfl (yq_move rfl (by (conv => lhs; whnf) <;> rfl)) ?_
  refine OW.q rfl rfl (yq_loadH rfl (by (conv => lhs; whnf) <;> rfl) ti25 (by repeat' first | exact List.mem_cons_self .. | apply List.mem_cons_of_mem)) ?_
  refine OW.calln rfl rfl rfl (by (conv => lhs; whnf) <;> rfl) (.cons (by (conv => lhs; whnf) <;> rfl) (.cons (by (conv => lhs; whnf) <;> rfl) (.cons (by (conv => lhs; whnf) <;> rfl) .nil))) en75 (fun w hw => tsign_calls _ (some [97]) 3 dTwo w (tree_blk hw (by repeat' first | exact List.mem_cons_self .. | apply List.mem_cons_of_mem)) ls97 (by decide) (by decide) (Cl_gl0 hw hg)) ?_
  rw [pl_ok]
  rintro _ _ ⟨_, rfl, a2, c2, rfl, rfl⟩
  refine OW.q rfl rfl (yq_move rfl (by (conv => lhs; whnf) <;> rfl)) ?_
  refine OW.q rfl rfl (yq_extract rfl (by (conv => lhs; whnf) <;> rfl) rfl) ?_
  refine OW.q rfl rfl (yq_extract rfl (by (conv => lhs; whnf) <;> rfl) rfl) ?_
  refine OW.alloc rfl rfl rfl tz44 (fun b5 => ?_)
  refine OW.store' rfl rfl rfl (by (conv => lhs; whnf) <;> rfl) (by (conv => lhs; whnf) <;> rfl) (vs := [.int .i64 3, .string (bs (signB [97] 3 (hb dTwo))), rowV a2 (pathL (leavesL [97]) 3).length c2]) ti44 rfl (by intro u hu; simp only [List.mem_cons, List.not_mem_nil, or_false] at hu; rcases hu with rfl | rfl | rfl <;> rfl) (by repeat' first | exact Put.head | apply Put.tail) (by exact spl_all _ _ rfl) (by exact Nat.le_of_ble_eq_true rfl) ?_
  refine OW.q rfl rfl (yq_assign rfl (by (conv => lhs; whnf) <;> rfl)) ?_
  refine OW.nil ?_
  refine hK5 _ _ ?_
  refine CW.seq_k fun K6 hK6 => ?_
  refine CW.draw mixed (by kernel_rfl) ?_
  refine QW.q rfl rfl (yq_move rfl (by (conv => lhs; whnf) <;> rfl)) ?_
  refine QW.q rfl rfl ((yq_eql rfl (by (conv => lhs; whnf) <;> rfl) (by (conv => lhs; whnf) <;> rfl)).to (v' := .bool true) (by rw [decide_eq_true (rfl)])) ?_
  refine QW.q rfl rfl (yq_move rfl (by (conv => lhs; whnf) <;> rfl)) ?_
  refine QW.q rfl rfl (yq_move rfl (by (conv => lhs; whnf) <;> rfl)) ?_
  refine QW.q rfl rfl ((yq_eql rfl (by (conv => lhs; whnf) <;> rfl) (by (conv => lhs; whnf) <;> rfl)).to (v' := .bool true) (by rw [decide_eq_true (rfl)])) ?_
  refine QW.q rfl rfl (yq_pick rfl (by (conv => lhs; whnf) <;> rfl) (by (conv => lhs; whnf) <;> rfl)) ?_
  refine QW.q rfl rfl (yq_move rfl (by (conv => lhs; whnf) <;> rfl)) ?_
  refine QW.q rfl rfl (yq_fieldAddr rfl (by (conv => lhs; whnf) <;> rfl) tf44_0 ti3) ?_
  refine QW.q rfl rfl (yq_load1 rfl (by (conv => lhs; whnf) <;> rfl) ti3 (by repeat' first | exact List.mem_cons_self .. | apply List.mem_cons_of_mem) (by rfl)) ?_
  refine QW.q rfl rfl ((yq_eql rfl (by (conv => lhs; whnf) <;> rfl) (by (conv => lhs; whnf) <;> rfl)).to (v' := .bool true) (by rw [decide_eq_true (rfl)])) ?_
  refine QW.q rfl rfl (yq_pick rfl (by (conv => lhs; whnf) <;> rfl) (by (conv => lhs; whnf) <;> rfl)) ?_
  refine QW.q rfl rfl (yq_move rfl (by (conv => lhs; whnf) <;> rfl)) ?_
  refine QW.q rfl rfl (yq_fieldAddr rfl (by (conv => lhs; whnf) <;> rfl) tf44_2 ti22) ?_
  refine QW.q rfl rfl (yq_load1 rfl (by (conv => lhs; whnf) <;> rfl) ti22 (by repeat' first | exact List.mem_cons_self .. | apply List.mem_cons_of_mem) (by rfl)) ?_
  refine QW.q rfl rfl (yq_len_slice rfl ts22 (by (conv => lhs; whnf) <;> rfl)) ?_
  refine QW.q rfl rfl ((yq_eql rfl (by (conv => lhs; whnf) <;> rfl) (by (conv => lhs; whnf) <;> rfl)).to (v' := .bool true) (by rw [decide_eq_true (by rw [pl_len]; rfl)])) ?_
  refine QW.q rfl rfl (yq_pick rfl (by (conv => lhs; whnf) <;> rfl) (by (conv => lhs; whnf) <;> rfl)) ?_
  refine QW.q rfl rfl (yq_move rfl (by (conv => lhs; whnf) <;> rfl)) ?_
  refine QW.q rfl rfl (yq_move rfl (by (conv => lhs; whnf) <;> rfl)) ?_
  refine QW.q rfl rfl (yq_call rfl rfl (.cons (by (conv => lhs; whnf) <;> rfl) .nil) en48 (fun w hw => troot_calls _ (some [97]) w (tree_blk hw (by repeat' first | exact List.mem_cons_self .. | apply List.mem_cons_of_mem)) (Cl_gl0 hw hg))) ?_
  refine QW.q rfl rfl (yq_loadH rfl (by (conv => lhs; whnf) <;> rfl) ti25 (by repeat' first | exact List.mem_cons_self .. | apply List.mem_cons_of_mem)) ?_
  refine QW.q rfl rfl ((yq_loadA (vs := [.int .i64 3, .string (bs (signB [97] 3 (hb dTwo))), rowV a2 (pathL (leavesL [97]) 3).length c2]) rfl (by (conv => lhs; whnf) <;> rfl) ti44 (by repeat' first | exact List.mem_cons_self .. | apply List.mem_cons_of_mem) (fun j u hu => by rw [Nat.zero_add]; exact hu))) ?_
  refine QW.q rfl rfl (yq_call rfl rfl (.cons (by (conv => lhs; whnf) <;> rfl) ( .cons (by (conv => lhs; whnf) <;> rfl) ( .cons (by (conv => lhs; whnf) <;> rfl) .nil))) en78 (fun w hw => verify_calls (rootL (leavesL [97])) dTwo 3 _ _ (pathL (leavesL [97]) 3) w (by rw [signB_length]; decide) (by rw [pl_len]; decide) (HsAt.row (a := a2) (cap := c2) rfl (hw.own _ (by repeat' first | exact List.mem_cons_self .. | apply List.mem_cons_of_mem))) (Cl_gl0 hw hg))) ?_
  refine QW.q rfl rfl ((yq_eql rfl (by (conv => lhs; whnf) <;> rfl) (by (conv => lhs; whnf) <;> rfl)).to (v' := .bool true) (by rw [decide_eq_true (pl_own)])) ?_
  refine QW.q rfl rfl (yq_pick rfl (by (conv => lhs; whnf) <;> rfl) (by (conv => lhs; whnf) <;> rfl)) ?_
  refine QW.q rfl rfl (yq_move rfl (by (conv => lhs; whnf) <;> rfl)) ?_
  refine QW.q rfl rfl (yq_move rfl (by (conv => lhs; whnf) <;> rfl)) ?_
  refine QW.q rfl rfl (yq_call rfl rfl (.cons (by (conv => lhs; whnf) <;> rfl) .nil) en48 (fun w hw => troot_calls _ (some [97]) w (tree_blk hw (by repeat' first | exact List.mem_cons_self .. | apply List.mem_cons_of_mem)) (Cl_gl0 hw hg))) ?_
  refine QW.q rfl rfl (yq_build (cs := hc dOne) rfl rfl (by unfold dOne; kernel_rfl)) ?_
  refine QW.q rfl rfl ((yq_loadA (vs := [.int .i64 3, .string (bs (signB [97] 3 (hb dTwo))), rowV a2 (pathL (leavesL [97]) 3).length c2]) rfl (by (conv => lhs; whnf) <;> rfl) ti44 (by repeat' first | exact List.mem_cons_self .. | apply List.mem_cons_of_mem) (fun j u hu => by rw [Nat.zero_add]; exact hu))) ?_
  refine QW.q rfl rfl (yq_call rfl rfl (.cons (by (conv => lhs; whnf) <;> rfl) ( .cons (by (conv => lhs; whnf) <;> rfl) ( .cons (by (conv => lhs; whnf) <;> rfl) .nil))) en78 (fun w hw => verify_calls (rootL (leavesL [97])) dOne 3 _ _ (pathL (leavesL [97]) 3) w (by rw [signB_length]; decide) (by rw [pl_len]; decide) (HsAt.row (a := a2) (cap := c2) rfl (hw.own _ (by repeat' first | exact List.mem_cons_self .. | apply List.mem_cons_of_mem))) (Cl_gl0 hw hg))) ?_
  refine QW.q rfl rfl ((yq_eql rfl (by (conv => lhs; whnf) <;> rfl) (by (conv => lhs; whnf) <;> rfl)).to (v' := .bool true) (by rw [decide_eq_true (pl_other ho)])) ?_
  refine QW.q rfl rfl (yq_pick rfl (by (conv => lhs; whnf) <;> rfl) (by (conv => lhs; whnf) <;> rfl)) ?_
  refine QW.q rfl rfl (yq_assign rfl (by (conv => lhs; whnf) <;> rfl)) ?_
  refine QW.nil ?_
  refine hK6 _ _ ?_
  refine CW.ret ?_
  -- ret (ret)
  exact fin1 (Or.inr rfl) rfl ⟨by decide, (by (conv => lhs; whnf) <;> rfl)⟩ (fun w hw => ⟨rfl, hw.sub (List.nil_sublist _)⟩)

set_option maxRecDepth 100000 in
set_option maxHeartbeats 1000000 in
theorem keytreeNone_calls (ho : Other) (i : Int) (d : Hash) (w : World) (hi1 : -9223372036854775808 ≤ i) (hi2 : i ≤ 9223372036854775807) (hg : GL w) :
    Calls Tryd.prog 18 #[.int .i64 i, HV d] w fun e w' => e = .returned (.bool true) ∧ Cl w [] [] w' := by
  refine calls_of_CW (L := []) Tryd.func18 rfl (Nat.le_of_ble_eq_true rfl) (Cl.refl _) ?_
  refine CW.seq_k fun K1 hK1 => ?_
  refine CW.region ?_
  refine OW.box rfl rfl rfl (by (conv => lhs; whnf) <;> rfl) (by rfl) (fun b3 => ?_)
  refine OW.q rfl rfl (yq_assign rfl (by (conv => lhs; whnf) <;> rfl)) ?_
  refine OW.nil ?_
  refine hK1 _ _ ?_
  refine CW.seq_k fun K2 hK2 => ?_
  refine CW.region ?_
  refine OW.q rfl rfl (yq_assign rfl (by (conv => lhs; whnf) <;> rfl)) ?_
  refine OW.nil ?_
  refine hK2 _ _ ?_
  refine CW.seq_k fun K3 hK3 => ?_
  refine CW.seq_k fun K4 hK4 => ?_
  refine CW.region ?_
  refine OW.q rfl rfl (yq_assign rfl (by (conv => lhs; whnf) <;> rfl)) ?_
  refine OW.nil ?_
  refine hK4 _ _ ?_
  refine CW.block ?_
  refine CW.loop (σ := Nat × Value) (fun q ρ L => match q with | (k, p) => ∃ Lt, Has ρ [(0, .int .i64 i), (3, .pointer (some ⟨b3, 0, none⟩)), (5, p), (6, .int .i64 (k : Int))] ∧ k ≤ 2 ∧ L = Lt ++ [.blk b3 (hc d) 25 (0, 0)] ∧ ((p = .pointer none ∧ Lt = []) ∨ ∃ bt r, p = .pointer (some ⟨bt, 0, none⟩) ∧ Lt = [.blk bt (.bool false :: r) 112 (0, 0)])) (fun q => 2 - q.1) ((0, .pointer none)) ?_ ?_
  · exact ⟨[], Has.mk ⟨(by (conv => lhs; whnf) <;> rfl), (by (conv => lhs; whnf) <;> rfl), (by (conv => lhs; whnf) <;> rfl), (by (conv => lhs; whnf) <;> rfl), trivial⟩, by omega, rfl, .inl ⟨rfl, rfl⟩⟩
  · rintro ⟨k, p⟩ _ _ ⟨Lt, ⟨ρ', rfl⟩, hk, rfl, hLt⟩
    have hTr : ∀ w1, Cl w [] (Lt ++ [.blk b3 (hc d) 25 (0, 0)]) w1 → TreeAt w1 p none := fun w1 h1 => by
      rcases hLt with ⟨rfl, rfl⟩ | ⟨bt, r, rfl, rfl⟩
      · exact .inl rfl
      · exact .inr ⟨bt, rfl, by rw [h1.cellAt (List.mem_cons_self ..)]; rfl⟩
    have hm3 : Ent.blk b3 (hc d) 25 (0, 0) ∈ Lt ++ [.blk b3 (hc d) 25 (0, 0)] := by simp
    refine CW.seq_k fun K5 hK5 => ?_
    refine CW.seq_k fun K6 hK6 => ?_
    refine CW.region ?_
    refine OW.q rfl rfl (yq_move rfl (by (conv => lhs; whnf) <;> rfl)) ?_
    refine OW.q rfl rfl (yq_lss rfl (by (conv => lhs; whnf) <;> rfl) (by (conv => lhs; whnf) <;> rfl)) ?_
    refine OW.nil ?_
    refine hK6 _ _ ?_
    refine CW.cond_dec (by (conv => lhs; whnf) <;> rfl) (fun hc1 => ?_) (fun hc1 => ?_)
    · refine CW.skip ?_
      refine hK5 _ _ ?_
      refine CW.seq_k fun K7 hK7 => ?_
      refine CW.block ?_
      refine CW.seq_k fun K8 hK8 => ?_
      refine CW.region ?_
      refine OW.q rfl rfl (yq_move rfl (by (conv => lhs; whnf) <;> rfl)) ?_
      refine OW.q rfl rfl (yq_move rfl (by (conv => lhs; whnf) <;> rfl)) ?_
      refine OW.q rfl rfl ((yq_loadH (v := d) rfl (by (conv => lhs; whnf) <;> rfl) ti25 hm3)) ?_
      refine OW.calln rfl rfl rfl (by (conv => lhs; whnf) <;> rfl) (.cons (by (conv => lhs; whnf) <;> rfl) (.cons (by (conv => lhs; whnf) <;> rfl) (.cons (by (conv => lhs; whnf) <;> rfl) .nil))) en75 (fun w1 hw1 => tsign_calls p none i d w1 (hTr w1 hw1) (fun s e => by cases e) hi1 hi2 (Cl_gl0 hw1 hg)) ?_
      rw [tsign_none]
      rintro _ _ ⟨_, rfl, a1, c1, rfl, rfl⟩
      refine OW.q rfl rfl (yq_move rfl (by (conv => lhs; whnf) <;> rfl)) ?_
      refine OW.q rfl rfl (yq_extract rfl (by (conv => lhs; whnf) <;> rfl) rfl) ?_
      refine OW.q rfl rfl (yq_extract rfl (by (conv => lhs; whnf) <;> rfl) rfl) ?_
      refine OW.alloc rfl rfl rfl tz44 (fun b7 => ?_)
      refine OW.store' rfl rfl rfl (by (conv => lhs; whnf) <;> rfl) (by (conv => lhs; whnf) <;> rfl) (vs := [.int .i64 0, .string (bs []), rowV a1 0 c1]) ti44 rfl (by intro u hu; simp only [List.mem_cons, List.not_mem_nil, or_false] at hu; rcases hu with rfl | rfl | rfl <;> rfl) (by repeat' first | exact Put.head | apply Put.tail) (by exact spl_all _ _ rfl) (by exact Nat.le_of_ble_eq_true rfl) ?_
      refine OW.q rfl rfl (yq_assign rfl (by (conv => lhs; whnf) <;> rfl)) ?_
      refine OW.nil ?_
      refine hK8 _ _ ?_
      refine CW.seq_k fun K9 hK9 => ?_
      refine CW.seq_k fun K10 hK10 => ?_
      refine CW.region ?_
      refine OW.q rfl rfl ((yq_loadA (vs := [.int .i64 0, .string (bs []), rowV a1 0 c1]) rfl (by (conv => lhs; whnf) <;> rfl) ti44 (by repeat' first | exact List.mem_cons_self .. | apply List.mem_cons_of_mem) (fun j u hu => by rw [Nat.zero_add]; exact hu))) ?_
      refine OW.q rfl rfl (yq_build (parts := []) (pv := []) (cs := [.int .i64 0, .string (bs []), rowV none 0 0]) rfl rfl (by kernel_rfl)) ?_
      refine OW.q rfl rfl (yq_call rfl rfl (.cons (by (conv => lhs; whnf) <;> rfl) ( .cons (by (conv => lhs; whnf) <;> rfl) .nil)) en77 (fun w hw => sameseal_calls 0 0 [] [] _ _ [] [] w (by decide) (HsAt.row (a := a1) (cap := c1) (l := []) rfl (hw.own _ (by repeat' first | exact List.mem_cons_self .. | apply List.mem_cons_of_mem))) (HsAt.row (a := none) (cap := 0) (l := []) rfl (World.ownsRow_nil w 0 25 32)))) ?_
      refine OW.q rfl rfl ((yq_not rfl (by (conv => lhs; whnf) <;> rfl)).to (v' := .bool false) rfl) ?_
      refine OW.q rfl rfl (yq_move rfl (by (conv => lhs; whnf) <;> rfl)) ?_
      refine OW.q rfl rfl (yq_move rfl (by (conv => lhs; whnf) <;> rfl)) ?_
      refine OW.q rfl rfl ((yq_neq rfl (by (conv => lhs; whnf) <;> rfl) (by (conv => lhs; whnf) <;> rfl)).to (v' := .bool false) (by simp)) ?_
      refine OW.q rfl rfl (yq_pick rfl (by (conv => lhs; whnf) <;> rfl) (by (conv => lhs; whnf) <;> rfl)) ?_
      refine OW.q rfl rfl (yq_move rfl (by (conv => lhs; whnf) <;> rfl)) ?_
      refine OW.q rfl rfl (yq_move rfl (by (conv => lhs; whnf) <;> rfl)) ?_
      refine OW.q rfl rfl (yq_call rfl rfl (.cons (by (conv => lhs; whnf) <;> rfl) .nil) en48 (fun w hw => troot_calls p none w (hTr w (hw.sub (by simp))) (Cl_gl0 hw hg))) ?_
      refine OW.q rfl rfl (yq_build (parts := []) (pv := []) (cs := hc zeroHash) rfl rfl (by kernel_rfl)) ?_
      refine OW.q rfl rfl ((yq_neq_H rfl (by (conv => lhs; whnf) <;> rfl) (by (conv => lhs; whnf) <;> rfl) ta25 Tryd.underlying5 ti5 eg25).to (v' := .bool false) (by simp [troot])) ?_
      refine OW.q rfl rfl (yq_pick rfl (by (conv => lhs; whnf) <;> rfl) (by (conv => lhs; whnf) <;> rfl)) ?_
      refine OW.nil ?_
      refine hK10 _ _ ?_
      refine CW.cond_f (by (conv => lhs; whnf) <;> rfl) ?_
      refine CW.skip ?_
      refine hK9 _ _ ?_
      refine CW.drop (L' := [.blk b3 (hc d) 25 (0, 0)]) (by simp) ?_
      refine CW.region ?_
      refine OW.q rfl rfl (yq_build (parts := []) (pv := []) (cs := [.bool false, .string (bs [])] ++ (List.replicate 8 zeroHash).flatMap hc) rfl rfl (by kernel_rfl)) ?_
      refine OW.box (cs := [.bool false, .string (bs [])] ++ (List.replicate 8 zeroHash).flatMap hc) rfl rfl rfl (by (conv => lhs; whnf) <;> rfl) rfl (fun b35 => ?_)
      refine OW.q rfl rfl (yq_assign rfl (by (conv => lhs; whnf) <;> rfl)) ?_
      refine OW.nil ?_
      refine hK7 _ _ ?_
      refine CW.region ?_
      refine OW.q rfl rfl (yq_move rfl (by (conv => lhs; whnf) <;> rfl)) ?_
      refine OW.q rfl rfl (yq_add rfl (by (conv => lhs; whnf) <;> rfl) (by (conv => lhs; whnf) <;> rfl) (by omega)) ?_
      refine OW.q rfl rfl (yq_assign rfl (by (conv => lhs; whnf) <;> rfl)) ?_
      refine OW.nil ?_
      exact ⟨(k + 1, .pointer (some ⟨b35, 0, none⟩)), ⟨[.blk b35 _ 112 (0, 0)], Has.mk ⟨(by (conv => lhs; whnf) <;> rfl), (by (conv => lhs; whnf) <;> rfl), (by (conv => lhs; whnf) <;> rfl), (by (conv => lhs; whnf) <;> rfl), trivial⟩, by omega, rfl, .inr ⟨b35, _, rfl, rfl⟩⟩, by omega⟩
    · refine CW.exit ?_
      refine then_exit ?_
      refine then_exit ?_
      refine blockQ_hit ?_
      refine hK3 _ _ ?_
      refine CW.seq_k fun K11 hK11 => ?_
      refine CW.region ?_
      refine OW.q rfl rfl (yq_call rfl rfl .nil en71 (fun w hw => planted_calls ho w (Cl_gl0 hw hg))) ?_
      refine OW.q rfl rfl (yq_assign rfl (by (conv => lhs; whnf) <;> rfl)) ?_
      refine OW.nil ?_
      refine hK11 _ _ ?_
      refine CW.ret ?_
      -- ret (ret)
      exact fin1 (Or.inr rfl) rfl ⟨by decide, (by (conv => lhs; whnf) <;> rfl)⟩ (fun w hw => ⟨rfl, hw.sub (List.nil_sublist _)⟩)

end Go.Proofs.YtahdekllphehkaaDoor

namespace Go.Proofs.YtahdekllphehkaaDoor
open Go.WL Go.Spec

theorem tsign_path_le (s : Bytes) (j : Int) (d : Bytes) : (tsign (some s) j d).2.2.1.length ≤ 8 := by
  unfold tsign
  show (if j < 0 ∨ 8 ≤ j then (0, [], [], 2) else (j, signB s j.toNat d, pathL (leavesL s) j.toNat, 0) : Int × Bytes × List Hash × Int).2.2.1.length ≤ 8
  split
  · decide
  · exact pathL_le _ _ 8 (by rw [leavesL_length]; decide)

set_option maxRecDepth 100000 in
set_option maxHeartbeats 1000000 in
theorem keytreeSign_calls (ho : Other) (s : Bytes) (i : Int) (d : Hash) (w : World) (hi1 : -9223372036854775808 ≤ i) (hi2 : i ≤ 9223372036854775807) (hg : GL w) :
    Calls Tryd.prog 16 #[.string (bs s), .int .i64 i, HV d] w fun e w' => e = .returned (.bool true) ∧ Cl w [] [] w' := by
  have hbi : bitsOf .and .i64 i 7 = i % 8 := bitsOf_low 3 (by decide) i hi1 hi2
  refine calls_of_CW (L := []) Tryd.func16 rfl (Nat.le_of_ble_eq_true rfl) (Cl.refl _) ?_
  refine CW.seq_k fun K1 hK1 => ?_
  refine CW.region ?_
  refine OW.box rfl rfl rfl (by (conv => lhs; whnf) <;> rfl) (by rfl) (fun b5 => ?_)
  refine OW.q rfl rfl (yq_assign rfl (by (conv => lhs; whnf) <;> rfl)) ?_
  refine OW.nil ?_
  refine hK1 _ _ ?_
  refine CW.seq_k fun K2 hK2 => ?_
  refine CW.seq_k fun K3 hK3 => ?_
  refine CW.region ?_
  refine OW.q rfl rfl (yq_move rfl (by (conv => lhs; whnf) <;> rfl)) ?_
  refine OW.q rfl rfl (yq_len_bs rfl tt9 (by (conv => lhs; whnf) <;> rfl)) ?_
  refine OW.q rfl rfl (yq_gtr rfl (by (conv => lhs; whnf) <;> rfl) (by (conv => lhs; whnf) <;> rfl)) ?_
  refine OW.nil ?_
  refine hK3 _ _ ?_
  refine CW.cond_dec (by (conv => lhs; whnf) <;> rfl) (fun hc0 => ?_) (fun hc0 => ?_)
  · refine CW.seq_k fun K4 hK4 => ?_
    refine CW.region ?_
    refine OW.q rfl rfl (yq_call rfl rfl .nil en71 (fun w hw => planted_calls ho w (Cl_gl0 hw hg))) ?_
    refine OW.q rfl rfl (yq_assign rfl (by (conv => lhs; whnf) <;> rfl)) ?_
    refine OW.nil ?_
    refine hK4 _ _ ?_
    refine CW.ret ?_
    refine then_ret ?_
    -- ret (ret)
    exact fin1 (Or.inr rfl) rfl ⟨by decide, (by (conv => lhs; whnf) <;> rfl)⟩ (fun w hw => ⟨rfl, hw.sub (List.nil_sublist _)⟩)
  · have hl1 : s.length ≤ 100 := by omega
    have hls : ∀ t, some s = some t → t.length ≤ 4294967200 := fun t e => by cases e; omega
    refine CW.skip ?_
    refine hK2 _ _ ?_
    refine CW.seq_k fun K5 hK5 => ?_
    refine CW.region ?_
    refine OW.q rfl rfl (yq_move rfl (by (conv => lhs; whnf) <;> rfl)) ?_
    refine OW.calln rfl rfl rfl (by (conv => lhs; whnf) <;> rfl) (.cons (by (conv => lhs; whnf) <;> rfl) .nil) en72 (fun w hw => tnew_calls s w (by omega) (Cl_gl0 hw hg)) ?_
    rintro _ _ ⟨bt, rfl, rfl⟩
    refine OW.q rfl rfl (yq_assign rfl (by (conv => lhs; whnf) <;> rfl)) ?_
    refine OW.nil ?_
    refine hK5 _ _ ?_
    refine CW.seq_k fun K6 hK6 => ?_
    refine CW.region ?_
    refine OW.q rfl rfl (yq_move rfl (by (conv => lhs; whnf) <;> rfl)) ?_
    refine OW.calln rfl rfl rfl (by (conv => lhs; whnf) <;> rfl) (.cons (by (conv => lhs; whnf) <;> rfl) .nil) en73 (fun w hw => refleaves_calls s w (by omega)) ?_
    rintro _ _ ⟨a, c, rfl, rfl⟩
    rw [leavesL_length]
    refine OW.q rfl rfl (yq_assign rfl (by (conv => lhs; whnf) <;> rfl)) ?_
    refine OW.nil ?_
    refine hK6 _ _ ?_
    refine CW.seq_k fun K7 hK7 => ?_
    refine CW.seq_k fun K8 hK8 => ?_
    refine CW.region ?_
    refine OW.q rfl rfl (yq_move rfl (by (conv => lhs; whnf) <;> rfl)) ?_
    refine OW.q rfl rfl (yq_call rfl rfl (.cons (by (conv => lhs; whnf) <;> rfl) .nil) en48 (fun w hw => troot_calls _ (some s) w (tree_blk hw (by repeat' first | exact List.mem_cons_self .. | apply List.mem_cons_of_mem)) (Cl_gl0 hw hg))) ?_
    refine OW.q rfl rfl (yq_move rfl (by (conv => lhs; whnf) <;> rfl)) ?_
    refine OW.q rfl rfl (yq_call rfl rfl (.cons (by (conv => lhs; whnf) <;> rfl) .nil) en74 (fun w hw => reftroot_calls _ (leavesL s) w (HsAt.row (a := a) (cap := c) (leavesL_length s).symm (hw.own _ (by repeat' first | exact List.mem_cons_self .. | apply List.mem_cons_of_mem))) (by rw [leavesL_length]; decide))) ?_
    refine OW.q rfl rfl ((yq_neq_H rfl (by (conv => lhs; whnf) <;> rfl) (by (conv => lhs; whnf) <;> rfl) ta25 Tryd.underlying5 ti5 eg25).to (v' := .bool false) (by simp [troot])) ?_
    refine OW.nil ?_
    refine hK8 _ _ ?_
    refine CW.cond_f (by (conv => lhs; whnf) <;> rfl) ?_
    refine CW.skip ?_
    refine hK7 _ _ ?_
    refine CW.seq_k fun K9 hK9 => ?_
    refine CW.seq_k fun K10 hK10 => ?_
    refine CW.region ?_
    refine OW.q rfl rfl (yq_assign rfl (by (conv => lhs; whnf) <;> rfl)) ?_
    refine OW.nil ?_
    refine hK10 _ _ ?_
    refine CW.block ?_
    refine CW.loop (σ := Nat) (fun k ρ L => Has ρ [(0, .string (bs s)), (1, .int .i64 i), (5, .pointer (some ⟨b5, 0, none⟩)), (7, .pointer (some ⟨bt, 0, none⟩)), (8, rowV a 8 c), (9, .int .i64 (k : Int))] ∧ k ≤ 2 ∧ L = [.row a c 8 25 32 ((leavesL s).flatMap hc), .blk bt (treeC s (leavesL s)) 112 (0, 0), .blk b5 (hc d) 25 (0, 0)]) (fun k => 2 - k) (0) ?_ ?_
    · exact ⟨Has.mk ⟨(by (conv => lhs; whnf) <;> rfl), (by (conv => lhs; whnf) <;> rfl), (by (conv => lhs; whnf) <;> rfl), (by (conv => lhs; whnf) <;> rfl), (by (conv => lhs; whnf) <;> rfl), (by (conv => lhs; whnf) <;> rfl), trivial⟩, by omega, rfl⟩
    · rintro k _ _ ⟨⟨ρ', rfl⟩, hk, rfl⟩
      refine CW.seq_k fun K11 hK11 => ?_
      refine CW.seq_k fun K12 hK12 => ?_
      refine CW.region ?_
      refine OW.q rfl rfl (yq_move rfl (by (conv => lhs; whnf) <;> rfl)) ?_
      refine OW.q rfl rfl (yq_lss rfl (by (conv => lhs; whnf) <;> rfl) (by (conv => lhs; whnf) <;> rfl)) ?_
      refine OW.nil ?_
      refine hK12 _ _ ?_
      refine CW.cond_dec (by (conv => lhs; whnf) <;> rfl) (fun hc3 => ?_) (fun hc3 => ?_)
      · refine CW.skip ?_
        refine hK11 _ _ ?_
        refine CW.seq_k fun K13 hK13 => ?_
        refine CW.block ?_
        refine CW.seq_k fun K14 hK14 => ?_
        refine CW.region ?_
        refine OW.q rfl rfl (yq_move rfl (by (conv => lhs; whnf) <;> rfl)) ?_
        refine OW.q rfl rfl (yq_assign rfl (by (conv => lhs; whnf) <;> rfl)) ?_
        refine OW.nil ?_
        refine hK14 _ _ ?_
        refine CW.seq_k fun K15 hK15 => ?_
        refine CW.seq_k fun K16 hK16 => ?_
        refine CW.region ?_
        refine OW.q rfl rfl (yq_move rfl (by (conv => lhs; whnf) <;> rfl)) ?_
        refine OW.q rfl rfl (yq_eql rfl (by (conv => lhs; whnf) <;> rfl) (by (conv => lhs; whnf) <;> rfl)) ?_
        refine OW.nil ?_
        refine hK16 _ _ ?_
        refine CW.cutK (fun ρ L => ∃ j : Int, -9223372036854775808 ≤ j ∧ j ≤ 9223372036854775807 ∧ Has ρ [(0, .string (bs s)), (1, .int .i64 i), (5, .pointer (some ⟨b5, 0, none⟩)), (7, .pointer (some ⟨bt, 0, none⟩)), (8, rowV a 8 c), (9, .int .i64 (k : Int)), (10, .int .i64 j)] ∧ L = [.row a c 8 25 32 ((leavesL s).flatMap hc), .blk bt (treeC s (leavesL s)) 112 (0, 0), .blk b5 (hc d) 25 (0, 0)]) ?_ ?_
        · refine CW.cond_dec (by (conv => lhs; whnf) <;> rfl) (fun hc5 => ?_) (fun hc5 => ?_)
          · refine CW.region ?_
            refine OW.q rfl rfl (yq_move rfl (by (conv => lhs; whnf) <;> rfl)) ?_
            refine OW.q rfl rfl (yq_and_e (r := i % 8) rfl (by (conv => lhs; whnf) <;> rfl) (by (conv => lhs; whnf) <;> rfl) hbi) ?_
            refine OW.q rfl rfl (yq_assign rfl (by (conv => lhs; whnf) <;> rfl)) ?_
            refine OW.nil ?_
            exact ⟨i % 8, by omega, by omega, Has.mk ⟨(by (conv => lhs; whnf) <;> rfl), (by (conv => lhs; whnf) <;> rfl), (by (conv => lhs; whnf) <;> rfl), (by (conv => lhs; whnf) <;> rfl), (by (conv => lhs; whnf) <;> rfl), (by (conv => lhs; whnf) <;> rfl), (by (conv => lhs; whnf) <;> rfl), trivial⟩, rfl⟩
          · refine CW.skip ?_
            exact ⟨i, hi1, hi2, Has.mk ⟨(by (conv => lhs; whnf) <;> rfl), (by (conv => lhs; whnf) <;> rfl), (by (conv => lhs; whnf) <;> rfl), (by (conv => lhs; whnf) <;> rfl), (by (conv => lhs; whnf) <;> rfl), (by (conv => lhs; whnf) <;> rfl), (by (conv => lhs; whnf) <;> rfl), trivial⟩, rfl⟩
        · rintro _ _ ⟨j, hj1, hj2, ⟨ρ', rfl⟩, rfl⟩
          refine hK15 _ _ ?_
          refine CW.seq_k fun K17 hK17 => ?_
          refine CW.region ?_
          refine OW.q rfl rfl (yq_move rfl (by (conv => lhs; whnf) <;> rfl)) ?_
          refine OW.q rfl rfl (yq_move rfl (by (conv => lhs; whnf) <;> rfl)) ?_
          refine OW.q rfl rfl (yq_loadH rfl (by (conv => lhs; whnf) <;> rfl) ti25 (by repeat' first | exact List.mem_cons_self .. | apply List.mem_cons_of_mem)) ?_
          refine OW.calln rfl rfl rfl (by (conv => lhs; whnf) <;> rfl) (.cons (by (conv => lhs; whnf) <;> rfl) (.cons (by (conv => lhs; whnf) <;> rfl) (.cons (by (conv => lhs; whnf) <;> rfl) .nil))) en75 (fun w hw => tsign_calls _ (some s) j d w (tree_blk hw (by repeat' first | exact List.mem_cons_self .. | apply List.mem_cons_of_mem)) hls hj1 hj2 (Cl_gl0 hw hg)) ?_
          rintro _ _ ⟨_, rfl, a1, c1, rfl, rfl⟩
          refine OW.q rfl rfl (yq_move rfl (by (conv => lhs; whnf) <;> rfl)) ?_
          refine OW.q rfl rfl (yq_extract rfl (by (conv => lhs; whnf) <;> rfl) rfl) ?_
          refine OW.q rfl rfl (yq_extract rfl (by (conv => lhs; whnf) <;> rfl) rfl) ?_
          refine OW.alloc rfl rfl rfl tz44 (fun b11 => ?_)
          refine OW.store' rfl rfl rfl (by (conv => lhs; whnf) <;> rfl) (by (conv => lhs; whnf) <;> rfl) (vs := [.int .i64 (tsign (some s) j (hb d)).1, .string (bs (tsign (some s) j (hb d)).2.1), rowV a1 (tsign (some s) j (hb d)).2.2.1.length c1]) ti44 rfl (by intro u hu; simp only [List.mem_cons, List.not_mem_nil, or_false] at hu; rcases hu with rfl | rfl | rfl <;> rfl) (by repeat' first | exact Put.head | apply Put.tail) (by exact spl_all _ _ rfl) (by exact Nat.le_of_ble_eq_true rfl) ?_
          refine OW.q rfl rfl (yq_assign rfl (by (conv => lhs; whnf) <;> rfl)) ?_
          refine OW.nil ?_
          refine hK17 _ _ ?_
          refine CW.seq_k fun K18 hK18 => ?_
          refine CW.region ?_
          refine OW.q rfl rfl (yq_move rfl (by (conv => lhs; whnf) <;> rfl)) ?_
          refine OW.q rfl rfl (yq_move rfl (by (conv => lhs; whnf) <;> rfl)) ?_
          refine OW.q rfl rfl (yq_move rfl (by (conv => lhs; whnf) <;> rfl)) ?_
          refine OW.q rfl rfl (yq_loadH rfl (by (conv => lhs; whnf) <;> rfl) ti25 (by repeat' first | exact List.mem_cons_self .. | apply List.mem_cons_of_mem)) ?_
          refine OW.calln rfl rfl rfl (by (conv => lhs; whnf) <;> rfl) (.cons (by (conv => lhs; whnf) <;> rfl) (.cons (by (conv => lhs; whnf) <;> rfl) (.cons (by (conv => lhs; whnf) <;> rfl) (.cons (by (conv => lhs; whnf) <;> rfl) .nil)))) en76 (fun w hw => reftsign_calls s _ j d w (HsAt.row (a := a) (cap := c) (leavesL_length s).symm (hw.own _ (by repeat' first | exact List.mem_cons_self .. | apply List.mem_cons_of_mem))) (by omega) hj1 hj2) ?_
          rintro _ _ ⟨_, rfl, a2, c2, rfl, rfl⟩
          refine OW.q rfl rfl (yq_move rfl (by (conv => lhs; whnf) <;> rfl)) ?_
          refine OW.q rfl rfl (yq_extract rfl (by (conv => lhs; whnf) <;> rfl) rfl) ?_
          refine OW.q rfl rfl (yq_extract rfl (by (conv => lhs; whnf) <;> rfl) rfl) ?_
          refine OW.alloc rfl rfl rfl tz44 (fun b13 => ?_)
          refine OW.store' rfl rfl rfl (by (conv => lhs; whnf) <;> rfl) (by (conv => lhs; whnf) <;> rfl) (vs := [.int .i64 (tsign (some s) j (hb d)).1, .string (bs (tsign (some s) j (hb d)).2.1), rowV a2 (tsign (some s) j (hb d)).2.2.1.length c2]) ti44 rfl (by intro u hu; simp only [List.mem_cons, List.not_mem_nil, or_false] at hu; rcases hu with rfl | rfl | rfl <;> rfl) (by repeat' first | exact Put.head | apply Put.tail) (by exact spl_all _ _ rfl) (by exact Nat.le_of_ble_eq_true rfl) ?_
          refine OW.q rfl rfl (yq_assign rfl (by (conv => lhs; whnf) <;> rfl)) ?_
          refine OW.nil ?_
          refine hK18 _ _ ?_
          refine CW.seq_k fun K19 hK19 => ?_
          refine CW.region ?_
          refine OW.q rfl rfl ((yq_loadA (vs := [.int .i64 (tsign (some s) j (hb d)).1, .string (bs (tsign (some s) j (hb d)).2.1), rowV a1 (tsign (some s) j (hb d)).2.2.1.length c1]) rfl (by (conv => lhs; whnf) <;> rfl) ti44 (by repeat' first | exact List.mem_cons_self .. | apply List.mem_cons_of_mem) (fun j u hu => by rw [Nat.zero_add]; exact hu))) ?_
          refine OW.q rfl rfl ((yq_loadA (vs := [.int .i64 (tsign (some s) j (hb d)).1, .string (bs (tsign (some s) j (hb d)).2.1), rowV a2 (tsign (some s) j (hb d)).2.2.1.length c2]) rfl (by (conv => lhs; whnf) <;> rfl) ti44 (by repeat' first | exact List.mem_cons_self .. | apply List.mem_cons_of_mem) (fun j u hu => by rw [Nat.zero_add]; exact hu))) ?_
          refine OW.q rfl rfl (yq_call rfl rfl (.cons (by (conv => lhs; whnf) <;> rfl) ( .cons (by (conv => lhs; whnf) <;> rfl) .nil)) en77 (fun w hw => sameseal_calls _ _ _ _ _ _ (tsign (some s) j (hb d)).2.2.1 (tsign (some s) j (hb d)).2.2.1 w (by have := tsign_path_le s j (hb d); omega) (HsAt.row (a := a1) (cap := c1) rfl (hw.own _ (by repeat' first | exact List.mem_cons_self .. | apply List.mem_cons_of_mem))) (HsAt.row (a := a2) (cap := c2) rfl (hw.own _ (by repeat' first | exact List.mem_cons_self .. | apply List.mem_cons_of_mem))))) ?_
          refine OW.q rfl rfl ((yq_not rfl (by (conv => lhs; whnf) <;> rfl)).to (v' := .bool false) (by simp)) ?_
          refine OW.q rfl rfl (yq_move rfl (by (conv => lhs; whnf) <;> rfl)) ?_
          refine OW.q rfl rfl (yq_move rfl (by (conv => lhs; whnf) <;> rfl)) ?_
          refine OW.q rfl rfl (yq_move rfl (by (conv => lhs; whnf) <;> rfl)) ?_
          refine OW.q rfl rfl ((yq_neq rfl (by (conv => lhs; whnf) <;> rfl) (by (conv => lhs; whnf) <;> rfl)).to (v' := .bool false) (by simp)) ?_
          refine OW.q rfl rfl (yq_pick rfl (by (conv => lhs; whnf) <;> rfl) (by (conv => lhs; whnf) <;> rfl)) ?_
          refine OW.nil ?_
          refine hK19 _ _ ?_
          refine CW.cond_f (by (conv => lhs; whnf) <;> rfl) ?_
          refine CW.skip ?_
          refine hK13 _ _ ?_
          refine CW.drop (L' := [.row a c 8 25 32 ((leavesL s).flatMap hc), .blk bt (treeC s (leavesL s)) 112 (0, 0), .blk b5 (hc d) 25 (0, 0)]) (by repeat' first | exact List.Sublist.refl _ | exact List.nil_sublist _ | apply List.Sublist.cons_cons | apply List.Sublist.cons) ?_
          refine CW.region ?_
          refine OW.q rfl rfl (yq_move rfl (by (conv => lhs; whnf) <;> rfl)) ?_
          refine OW.q rfl rfl (yq_add rfl (by (conv => lhs; whnf) <;> rfl) (by (conv => lhs; whnf) <;> rfl) (by omega)) ?_
          refine OW.q rfl rfl (yq_assign rfl (by (conv => lhs; whnf) <;> rfl)) ?_
          refine OW.nil ?_
          exact ⟨k + 1, ⟨Has.mk ⟨(by (conv => lhs; whnf) <;> rfl), (by (conv => lhs; whnf) <;> rfl), (by (conv => lhs; whnf) <;> rfl), (by (conv => lhs; whnf) <;> rfl), (by (conv => lhs; whnf) <;> rfl), (by (conv => lhs; whnf) <;> rfl), trivial⟩, by omega, rfl⟩, by omega⟩
      · refine CW.exit ?_
        refine then_exit ?_
        refine then_exit ?_
        refine blockQ_hit ?_
        refine hK9 _ _ ?_
        refine CW.seq_k fun K20 hK20 => ?_
        refine CW.region ?_
        refine OW.q rfl rfl (yq_call rfl rfl .nil en71 (fun w hw => planted_calls ho w (Cl_gl0 hw hg))) ?_
        refine OW.q rfl rfl (yq_assign rfl (by (conv => lhs; whnf) <;> rfl)) ?_
        refine OW.nil ?_
        refine hK20 _ _ ?_
        refine CW.ret ?_
        -- ret (ret)
        exact fin1 (Or.inr rfl) rfl ⟨by decide, (by (conv => lhs; whnf) <;> rfl)⟩ (fun w hw => ⟨rfl, hw.sub (List.nil_sublist _)⟩)

end Go.Proofs.YtahdekllphehkaaDoor

namespace Go.Proofs.YtahdekllphehkaaDoor
open Go.WL Go.Spec

theorem spl_set (l : Bytes) (k : Nat) (x : UInt8) (h : k < l.length) : spl (bc l) k [U8 x] = bc (l.set k x) := by
  unfold spl
  rw [List.set_eq_take_append_cons_drop, if_pos h]
  simp only [bc, List.map_append, List.map_cons, List.map_take, List.map_drop, List.length_singleton, List.append_assoc, List.singleton_append, List.cons_append, List.nil_append]

set_option maxRecDepth 100000 in
set_option maxHeartbeats 1000000 in
theorem keytreeVerify_calls (ho : Other) (I A C : Int) (B : UInt8) (v : Value) (p : List Hash) (r d : Hash) (w : World) (hs : HsAt w v p) (hI1 : -9223372036854775808 ≤ I) (hI2 : I ≤ 9223372036854775807) (hA1 : 0 ≤ A) (hA2 : A ≤ 65535) (hC1 : 0 ≤ C) (hC2 : C ≤ 65535) (hg : GL w) :
    Calls Tryd.prog 17 #[.agg [.int .i64 I, .int .u16 A, U8 B, v, .int .u16 C].toArray, HV r, HV d] w fun e w' => e = .returned (.bool true) ∧ Cl w [] [] w' := by
  have hs0 := hs
  obtain ⟨a0, cap0, rfl⟩ := hs0.len
  obtain ⟨k, hk⟩ : ∃ k : Nat, I % 8 = (k : Int) := ⟨(I % 8).toNat, by omega⟩
  have hbk : bitsOf .and .i64 I 7 = (k : Int) := (bitsOf_low 3 (by decide) I hI1 hI2).trans hk
  obtain ⟨S0, hS0⟩ : ∃ S0, S0 = signB [107] k (hb d) := ⟨_, rfl⟩
  obtain ⟨P0, hP0⟩ : ∃ P0, P0 = pathL (leavesL [107]) k := ⟨_, rfl⟩
  have hSl : S0.length = 16384 := by rw [hS0]; exact signB_length _ _ _
  have hPl : P0.length ≤ 8 := by rw [hP0]; exact pathL_le _ _ 8 (by rw [leavesL_length]; decide)
  have hTS : tsign (some [107]) (k : Int) (hb d) = ((k : Int), S0, P0, 0) := by rw [hS0, hP0]; exact tsign_ok (by omega)
  have hls : ∀ s, some ([107] : Bytes) = some s → s.length ≤ 4294967200 := fun s e => by cases e; decide
  refine calls_of_CW (L := []) Tryd.func17 rfl (Nat.le_of_ble_eq_true rfl) (Cl.refl _) ?_
  refine CW.seq_k fun K1 hK1 => ?_
  refine CW.region ?_
  refine OW.box (cs := [.int .i64 I, .int .u16 A, U8 B, .slice a0 p.length cap0, .int .u16 C]) rfl rfl rfl (by (conv => lhs; whnf) <;> rfl) rfl (fun b3 => ?_)
  refine OW.box rfl rfl rfl (by (conv => lhs; whnf) <;> rfl) (by rfl) (fun b4 => ?_)
  refine OW.box rfl rfl rfl (by (conv => lhs; whnf) <;> rfl) (by rfl) (fun b5 => ?_)
  refine OW.q rfl rfl (yq_assign rfl (by (conv => lhs; whnf) <;> rfl)) ?_
  refine OW.nil ?_
  refine hK1 _ _ ?_
  refine CW.seq_k fun K2 hK2 => ?_
  refine CW.seq_k fun K3 hK3 => ?_
  refine CW.region ?_
  refine OW.q rfl rfl (yq_fieldAddr rfl (by (conv => lhs; whnf) <;> rfl) tf107_3 ti22) ?_
  refine OW.q rfl rfl (yq_load1 rfl (by (conv => lhs; whnf) <;> rfl) ti22 (by repeat' first | exact List.mem_cons_self .. | apply List.mem_cons_of_mem) (by rfl)) ?_
  refine OW.q rfl rfl (yq_len_slice rfl ts22 (by (conv => lhs; whnf) <;> rfl)) ?_
  refine OW.q rfl rfl (yq_gtr rfl (by (conv => lhs; whnf) <;> rfl) (by (conv => lhs; whnf) <;> rfl)) ?_
  refine OW.nil ?_
  refine hK3 _ _ ?_
  refine CW.cond_dec (by (conv => lhs; whnf) <;> rfl) (fun hc0 => ?_) (fun hc0 => ?_)
  · refine CW.seq_k fun K4 hK4 => ?_
    refine CW.region ?_
    refine OW.q rfl rfl (yq_call rfl rfl .nil en71 (fun w hw => planted_calls ho w (Cl_gl0 hw hg))) ?_
    refine OW.q rfl rfl (yq_assign rfl (by (conv => lhs; whnf) <;> rfl)) ?_
    refine OW.nil ?_
    refine hK4 _ _ ?_
    refine CW.ret ?_
    refine then_ret ?_
    -- ret (ret)
    exact fin1 (Or.inr rfl) rfl ⟨by decide, (by (conv => lhs; whnf) <;> rfl)⟩ (fun w hw => ⟨rfl, hw.sub (List.nil_sublist _)⟩)
  · have hl40 : p.length ≤ 40 := by omega
    refine CW.skip ?_
    refine hK2 _ _ ?_
    refine CW.seq_k fun K5 hK5 => ?_
    refine CW.region ?_
    refine OW.calln rfl rfl rfl (by (conv => lhs; whnf) <;> rfl) (.cons (by (conv => lhs; whnf) <;> rfl) .nil) en72 (fun w hw => tnew_calls [107] w (by decide) (Cl_gl0 hw hg)) ?_
    rintro _ _ ⟨bt, rfl, rfl⟩
    refine OW.q rfl rfl (yq_assign rfl (by (conv => lhs; whnf) <;> rfl)) ?_
    refine OW.nil ?_
    refine hK5 _ _ ?_
    refine CW.seq_k fun K6 hK6 => ?_
    refine CW.region ?_
    refine OW.q rfl rfl (yq_move rfl (by (conv => lhs; whnf) <;> rfl)) ?_
    refine OW.q rfl rfl (yq_fieldAddr rfl (by (conv => lhs; whnf) <;> rfl) tf107_0 ti3) ?_
    refine OW.q rfl rfl (yq_load1 rfl (by (conv => lhs; whnf) <;> rfl) ti3 (by repeat' first | exact List.mem_cons_self .. | apply List.mem_cons_of_mem) (by rfl)) ?_
    refine OW.q rfl rfl (yq_and_e (r := (k : Int)) rfl (by (conv => lhs; whnf) <;> rfl) (by (conv => lhs; whnf) <;> rfl) hbk) ?_
    refine OW.q rfl rfl (yq_loadH rfl (by (conv => lhs; whnf) <;> rfl) ti25 (by repeat' first | exact List.mem_cons_self .. | apply List.mem_cons_of_mem)) ?_
    refine OW.calln rfl rfl rfl (by (conv => lhs; whnf) <;> rfl) (.cons (by (conv => lhs; whnf) <;> rfl) (.cons (by (conv => lhs; whnf) <;> rfl) (.cons (by (conv => lhs; whnf) <;> rfl) .nil))) en75 (fun w hw => tsign_calls _ (some [107]) (k : Int) d w (tree_blk hw (by repeat' first | exact List.mem_cons_self .. | apply List.mem_cons_of_mem)) hls (by omega) (by omega) (Cl_gl0 hw hg)) ?_
    rw [hTS]
    rintro _ _ ⟨_, rfl, a1, c1, rfl, rfl⟩
    refine OW.q rfl rfl (yq_move rfl (by (conv => lhs; whnf) <;> rfl)) ?_
    refine OW.q rfl rfl (yq_extract rfl (by (conv => lhs; whnf) <;> rfl) rfl) ?_
    refine OW.q rfl rfl (yq_extract rfl (by (conv => lhs; whnf) <;> rfl) rfl) ?_
    refine OW.alloc rfl rfl rfl tz44 (fun b8 => ?_)
    refine OW.store' rfl rfl rfl (by (conv => lhs; whnf) <;> rfl) (by (conv => lhs; whnf) <;> rfl) (vs := [.int .i64 (k : Int), .string (bs S0), rowV a1 P0.length c1]) ti44 rfl (by intro u hu; simp only [List.mem_cons, List.not_mem_nil, or_false] at hu; rcases hu with rfl | rfl | rfl <;> rfl) (by repeat' first | exact Put.head | apply Put.tail) (by exact spl_all _ _ rfl) (by exact Nat.le_of_ble_eq_true rfl) ?_
    refine OW.q rfl rfl (yq_assign rfl (by (conv => lhs; whnf) <;> rfl)) ?_
    refine OW.nil ?_
    refine hK6 _ _ ?_
    refine CW.seq_k fun K7 hK7 => ?_
    refine CW.seq_k fun K8 hK8 => ?_
    refine CW.region ?_
    refine OW.q rfl rfl (yq_move rfl (by (conv => lhs; whnf) <;> rfl)) ?_
    refine OW.q rfl rfl ((yq_neq rfl (by (conv => lhs; whnf) <;> rfl) (by (conv => lhs; whnf) <;> rfl)).to (v' := .bool false) (by simp)) ?_
    refine OW.q rfl rfl (yq_move rfl (by (conv => lhs; whnf) <;> rfl)) ?_
    refine OW.q rfl rfl (yq_fieldAddr rfl (by (conv => lhs; whnf) <;> rfl) tf44_1 ti9) ?_
    refine OW.q rfl rfl (yq_load1 rfl (by (conv => lhs; whnf) <;> rfl) ti9 (by repeat' first | exact List.mem_cons_self .. | apply List.mem_cons_of_mem) (by rfl)) ?_
    refine OW.q rfl rfl ((yq_len_bs rfl tt9 (by (conv => lhs; whnf) <;> rfl)).to (v' := .int .i64 16384) (by rw [hSl]; rfl)) ?_
    refine OW.q rfl rfl ((yq_neq rfl (by (conv => lhs; whnf) <;> rfl) (by (conv => lhs; whnf) <;> rfl)).to (v' := .bool false) (by simp)) ?_
    refine OW.q rfl rfl (yq_pick rfl (by (conv => lhs; whnf) <;> rfl) (by (conv => lhs; whnf) <;> rfl)) ?_
    refine OW.nil ?_
    refine hK8 _ _ ?_
    refine CW.cond_f (by (conv => lhs; whnf) <;> rfl) ?_
    refine CW.skip ?_
    refine hK7 _ _ ?_
    refine CW.seq_k fun K9 hK9 => ?_
    refine CW.seq_k fun K10 hK10 => ?_
    refine CW.region ?_
    refine OW.q rfl rfl (yq_assign rfl (by (conv => lhs; whnf) <;> rfl)) ?_
    refine OW.nil ?_
    refine hK10 _ _ ?_
    refine CW.block ?_
    refine CW.loop (σ := Nat) (fun j ρ L => Has ρ [(3, .pointer (some ⟨b3, 0, none⟩)), (4, .pointer (some ⟨b4, 0, none⟩)), (5, .pointer (some ⟨b5, 0, none⟩)), (7, .pointer (some ⟨bt, 0, none⟩)), (8, .pointer (some ⟨b8, 0, none⟩)), (10, .int .i64 (j : Int))] ∧ j ≤ 7 ∧ L = [.blk b8 ([.int .i64 (k : Int), .string (bs S0), rowV a1 P0.length c1]) 44 (0, 0), .row a1 c1 P0.length 25 32 (P0.flatMap hc), .blk bt (treeC [107] (leavesL [107])) 112 (0, 0), .blk b5 (hc d) 25 (0, 0), .blk b4 (hc r) 25 (0, 0), .blk b3 ([.int .i64 I, .int .u16 A, U8 B, .slice a0 p.length cap0, .int .u16 C]) 107 (0, 0)]) (fun j => 7 - j) (0) ?_ ?_
    · exact ⟨Has.mk ⟨(by (conv => lhs; whnf) <;> rfl), (by (conv => lhs; whnf) <;> rfl), (by (conv => lhs; whnf) <;> rfl), (by (conv => lhs; whnf) <;> rfl), (by (conv => lhs; whnf) <;> rfl), (by (conv => lhs; whnf) <;> rfl), trivial⟩, by omega, rfl⟩
    · rintro j _ _ ⟨⟨ρ', rfl⟩, hj, rfl⟩
      refine CW.seq_k fun K11 hK11 => ?_
      refine CW.seq_k fun K12 hK12 => ?_
      refine CW.region ?_
      refine OW.q rfl rfl (yq_move rfl (by (conv => lhs; whnf) <;> rfl)) ?_
      refine OW.q rfl rfl (yq_lss rfl (by (conv => lhs; whnf) <;> rfl) (by (conv => lhs; whnf) <;> rfl)) ?_
      refine OW.nil ?_
      refine hK12 _ _ ?_
      refine CW.cond_dec (by (conv => lhs; whnf) <;> rfl) (fun hc3 => ?_) (fun hc3 => ?_)
      · refine CW.skip ?_
        refine hK11 _ _ ?_
        refine CW.seq_k fun K13 hK13 => ?_
        refine CW.block ?_
        refine CW.seq_k fun K14 hK14 => ?_
        refine CW.region ?_
        refine OW.q rfl rfl ((yq_loadA (vs := [.int .i64 (k : Int), .string (bs S0), rowV a1 P0.length c1]) rfl (by (conv => lhs; whnf) <;> rfl) ti44 (by repeat' first | exact List.mem_cons_self .. | apply List.mem_cons_of_mem) (fun j u hu => by rw [Nat.zero_add]; exact hu))) ?_
        refine OW.alloc rfl rfl rfl tz44 (fun b11 => ?_)
        refine OW.store' rfl rfl rfl (by (conv => lhs; whnf) <;> rfl) (by (conv => lhs; whnf) <;> rfl) (vs := [.int .i64 (k : Int), .string (bs S0), rowV a1 P0.length c1]) ti44 rfl (by intro u hu; simp only [List.mem_cons, List.not_mem_nil, or_false] at hu; rcases hu with rfl | rfl | rfl <;> rfl) (by repeat' first | exact Put.head | apply Put.tail) (by exact spl_all _ _ rfl) (by exact Nat.le_of_ble_eq_true rfl) ?_
        refine OW.nil ?_
        refine hK14 _ _ ?_
        refine CW.seq_k fun K15 hK15 => ?_
        refine CW.region ?_
        refine OW.q rfl rfl (yq_move rfl (by (conv => lhs; whnf) <;> rfl)) ?_
        refine OW.q rfl rfl (yq_call rfl rfl (.cons (by (conv => lhs; whnf) <;> rfl) .nil) en48 (fun w hw => troot_calls _ (some [107]) w (tree_blk hw (by repeat' first | exact List.mem_cons_self .. | apply List.mem_cons_of_mem)) (Cl_gl0 hw hg))) ?_
        refine OW.alloc rfl rfl rfl tz25 (fun b12 => ?_)
        refine OW.storeH rfl rfl rfl (by (conv => lhs; whnf) <;> rfl) (by (conv => lhs; whnf) <;> rfl) ti25 (by repeat' first | exact Put.head | apply Put.tail) (hc_length _) ?_
        refine OW.nil ?_
        refine hK15 _ _ ?_
        refine CW.seq_k fun K16 hK16 => ?_
        refine CW.seq_k fun K17 hK17 => ?_
        refine CW.region ?_
        refine OW.q rfl rfl (yq_move rfl (by (conv => lhs; whnf) <;> rfl)) ?_
        refine OW.nil ?_
        refine hK17 _ _ ?_
        refine CW.cutK (fun ρ L => ∃ (i' : Int) (s' : Bytes) (v' : Value) (p' : List Hash) (rt : Hash), Has ρ [(3, .pointer (some ⟨b3, 0, none⟩)), (4, .pointer (some ⟨b4, 0, none⟩)), (5, .pointer (some ⟨b5, 0, none⟩)), (7, .pointer (some ⟨bt, 0, none⟩)), (8, .pointer (some ⟨b8, 0, none⟩)), (10, .int .i64 (j : Int)), (11, .pointer (some ⟨b11, 0, none⟩)), (12, .pointer (some ⟨b12, 0, none⟩))] ∧ Ent.blk b12 (hc rt) 25 (0, 0) ∈ L ∧ Ent.blk b11 [.int .i64 i', .string (bs s'), v'] 44 (0, 0) ∈ L ∧ List.Sublist [.blk b8 ([.int .i64 (k : Int), .string (bs S0), rowV a1 P0.length c1]) 44 (0, 0), .row a1 c1 P0.length 25 32 (P0.flatMap hc), .blk bt (treeC [107] (leavesL [107])) 112 (0, 0), .blk b5 (hc d) 25 (0, 0), .blk b4 (hc r) 25 (0, 0), .blk b3 ([.int .i64 I, .int .u16 A, U8 B, .slice a0 p.length cap0, .int .u16 C]) 107 (0, 0)] L ∧ s'.length ≤ 16384 ∧ p'.length ≤ 4294967296 ∧ (∀ w1, Cl w [] L w1 → HsAt w1 v' p')) ?_ ?_
        · refine CW.block ?_
          refine CW.seq_k fun K18 hK18 => ?_
          refine CW.region ?_
          refine OW.q rfl rfl (yq_eql rfl (by (conv => lhs; whnf) <;> rfl) (by (conv => lhs; whnf) <;> rfl)) ?_
          refine OW.q rfl rfl (yq_assign rfl (by (conv => lhs; whnf) <;> rfl)) ?_
          refine OW.nil ?_
          refine hK18 _ _ ?_
          refine CW.cond_dec (by (conv => lhs; whnf) <;> rfl) (fun hc6 => ?_) (fun hc6 => ?_)
          · refine CW.region ?_
            refine OW.q rfl rfl (yq_fieldAddr rfl (by (conv => lhs; whnf) <;> rfl) tf107_0 ti3) ?_
            refine OW.q rfl rfl (yq_load1 rfl (by (conv => lhs; whnf) <;> rfl) ti3 (by repeat' first | exact List.mem_cons_self .. | apply List.mem_cons_of_mem) (by rfl)) ?_
            refine OW.q rfl rfl (yq_fieldAddr rfl (by (conv => lhs; whnf) <;> rfl) tf44_0 ti3) ?_
            refine OW.store1 rfl rfl rfl (by (conv => lhs; whnf) <;> rfl) (by (conv => lhs; whnf) <;> rfl) ti3 (by rfl) (by repeat' first | exact Put.head | apply Put.tail) (by rfl) (Nat.le_of_ble_eq_true rfl) ?_
            refine OW.nil ?_
            exact ⟨I, S0, rowV a1 P0.length c1, P0, rootL (leavesL [107]), Has.mk ⟨(by (conv => lhs; whnf) <;> rfl), (by (conv => lhs; whnf) <;> rfl), (by (conv => lhs; whnf) <;> rfl), (by (conv => lhs; whnf) <;> rfl), (by (conv => lhs; whnf) <;> rfl), (by (conv => lhs; whnf) <;> rfl), (by (conv => lhs; whnf) <;> rfl), (by (conv => lhs; whnf) <;> rfl), trivial⟩, (by repeat' first | exact List.mem_cons_self .. | apply List.mem_cons_of_mem), (by repeat' first | exact List.mem_cons_self .. | apply List.mem_cons_of_mem), (by repeat' first | exact List.Sublist.refl _ | exact List.nil_sublist _ | apply List.Sublist.cons_cons | apply List.Sublist.cons), (by have := hSl; first | omega | (simp; omega)), (by first | omega | (simp; omega)), fun w1 h1 => HsAt.row (l := P0) rfl (h1.own (.row a1 c1 P0.length 25 32 (P0.flatMap hc)) (by repeat' first | exact List.mem_cons_self .. | apply List.mem_cons_of_mem))⟩
          · refine CW.seq_k fun K19 hK19 => ?_
            refine CW.region ?_
            refine OW.q rfl rfl (yq_eql rfl (by (conv => lhs; whnf) <;> rfl) (by (conv => lhs; whnf) <;> rfl)) ?_
            refine OW.q rfl rfl (yq_assign rfl (by (conv => lhs; whnf) <;> rfl)) ?_
            refine OW.nil ?_
            refine hK19 _ _ ?_
            refine CW.cond_dec (by (conv => lhs; whnf) <;> rfl) (fun hc7 => ?_) (fun hc7 => ?_)
            · refine CW.seq_k fun K20 hK20 => ?_
              refine CW.region ?_
              refine OW.q rfl rfl (yq_fieldAddr rfl (by (conv => lhs; whnf) <;> rfl) tf44_1 ti9) ?_
              refine OW.q rfl rfl (yq_load1 rfl (by (conv => lhs; whnf) <;> rfl) ti9 (by repeat' first | exact List.mem_cons_self .. | apply List.mem_cons_of_mem) (by rfl)) ?_
              refine OW.bytes_of rfl rfl rfl tt9 ts92 Tryd.underlying5 (by (conv => lhs; whnf) <;> rfl) (by rw [hSl]; decide) (fun vb xb hsb => ?_)
              refine OW.know _ (fun w hw => hsb.isSlice (by omega) (hw.own _ (List.mem_cons_self ..))) ?_
              rintro ⟨bb, cb, rfl⟩
              have hoff : (A % 16384).toNat < 16384 := by omega
              refine OW.q rfl rfl (yq_assign rfl (by (conv => lhs; whnf) <;> rfl)) ?_
              refine OW.nil ?_
              refine hK20 _ _ ?_
              refine CW.seq_k fun K21 hK21 => ?_
              refine CW.held ([.blk b3 ([.int .i64 I, .int .u16 A, U8 B, .slice a0 p.length cap0, .int .u16 C]) 107 (0, 0)]) mixed ?_
              refine HW.take 0 rfl (by kernel_rfl) (by kernel_rfl) (by kernel_rfl) rfl rfl (by repeat' first | exact List.Sublist.refl _ | exact List.nil_sublist _ | apply List.Sublist.cons_cons | apply List.Sublist.cons) (yv_of_yq rfl (yq_move rfl (by (conv => lhs; whnf) <;> rfl))) ?_
              refine HW.take 1 rfl (by kernel_rfl) (by kernel_rfl) (by kernel_rfl) rfl rfl (by repeat' first | exact List.Sublist.refl _ | exact List.nil_sublist _ | apply List.Sublist.cons_cons | apply List.Sublist.cons) (yv_of_yq rfl (yq_fieldAddr rfl (by (conv => lhs; whnf) <;> rfl) tf107_1 ti39)) ?_
              refine HW.take 2 rfl (by kernel_rfl) (by kernel_rfl) (by kernel_rfl) rfl rfl (by repeat' first | exact List.Sublist.refl _ | exact List.nil_sublist _ | apply List.Sublist.cons_cons | apply List.Sublist.cons) (yv_of_yq rfl (yq_load1 rfl (by (conv => lhs; whnf) <;> rfl) ti39 (by repeat' first | exact List.mem_cons_self .. | apply List.mem_cons_of_mem) (by rfl))) ?_
              refine HW.take 3 rfl (by kernel_rfl) (by kernel_rfl) (by kernel_rfl) rfl rfl (by repeat' first | exact List.Sublist.refl _ | exact List.nil_sublist _ | apply List.Sublist.cons_cons | apply List.Sublist.cons) (yv_of_yq rfl (yq_conv_int (r := A) rfl Tryd.underlying39 Tryd.underlying3 (by (conv => lhs; whnf) <;> rfl) (wrap64_in (by omega)))) ?_
              refine HW.take 4 rfl (by kernel_rfl) (by kernel_rfl) (by kernel_rfl) rfl rfl (by repeat' first | exact List.Sublist.refl _ | exact List.nil_sublist _ | apply List.Sublist.cons_cons | apply List.Sublist.cons) (yv_of_yq rfl (yq_move rfl (by (conv => lhs; whnf) <;> rfl))) ?_
              refine HW.take 5 rfl (by kernel_rfl) (by kernel_rfl) (by kernel_rfl) rfl rfl (by repeat' first | exact List.Sublist.refl _ | exact List.nil_sublist _ | apply List.Sublist.cons_cons | apply List.Sublist.cons) (yv_len_slice rfl ts92 (by (conv => lhs; whnf) <;> rfl)) ?_
              refine HW.take 6 rfl (by kernel_rfl) (by kernel_rfl) (by kernel_rfl) rfl rfl (by repeat' first | exact List.Sublist.refl _ | exact List.nil_sublist _ | apply List.Sublist.cons_cons | apply List.Sublist.cons) (yv_of_yq rfl ((yq_rem rfl (by (conv => lhs; whnf) <;> rfl) (by (conv => lhs; whnf) <;> rfl) (by omega)).to (v' := .int .i64 (A % 16384)) (by rw [hSl]; rfl))) ?_
              refine HW.take 7 rfl (by kernel_rfl) (by kernel_rfl) (by kernel_rfl) rfl rfl (by repeat' first | exact List.Sublist.refl _ | exact List.nil_sublist _ | apply List.Sublist.cons_cons | apply List.Sublist.cons) (yv_of_yq rfl (yq_fieldAddr rfl (by (conv => lhs; whnf) <;> rfl) tf107_2 ti5)) ?_
              refine HW.take 8 rfl (by kernel_rfl) (by kernel_rfl) (by kernel_rfl) rfl rfl (by repeat' first | exact List.Sublist.refl _ | exact List.nil_sublist _ | apply List.Sublist.cons_cons | apply List.Sublist.cons) (yv_of_yq rfl (yq_load1 rfl (by (conv => lhs; whnf) <;> rfl) ti5 (by repeat' first | exact List.mem_cons_self .. | apply List.mem_cons_of_mem) (by rfl))) ?_
              refine HW.take 9 rfl (by kernel_rfl) (by kernel_rfl) (by kernel_rfl) rfl rfl (by repeat' first | exact List.Sublist.refl _ | exact List.nil_sublist _ | apply List.Sublist.cons_cons | apply List.Sublist.cons) (yv_of_yq rfl (yq_index_slice rfl (by (conv => lhs; whnf) <;> rfl) (by (conv => lhs; whnf) <;> rfl) ts92 ti5 (by omega) (by omega))) ?_
              refine HW.one 10 (by kernel_rfl) rfl ?_
              refine OW.storeSl (sv := .bool true) (vs := [U8 B]) (xs' := bc (S0.set (A % 16384).toNat B)) rfl rfl rfl (by (conv => lhs; whnf) <;> rfl) (by (conv => lhs; whnf) <;> rfl) ti5 rfl (by simp; rfl) hsb (by simp [bc]) .head (by rw [Nat.zero_add, Nat.mul_one]; exact spl_set S0 _ B (by omega)) (by simp [bc] <;> omega) (fun hsb2 => ?_)
              refine OW.nil ⟨rfl, (by repeat' first | exact List.Sublist.refl _ | exact List.nil_sublist _ | apply List.Sublist.cons_cons | apply List.Sublist.cons), ?_⟩
              refine HW.done (by kernel_rfl) ?_
              refine hK21 _ _ ?_
              refine CW.region ?_
              refine OW.q rfl rfl (yq_move rfl (by (conv => lhs; whnf) <;> rfl)) ?_
              refine OW.q rfl rfl (yq_conv_bytes (l := S0.set (A % 16384).toNat B) rfl ts92 Tryd.underlying5 tt9 (by (conv => lhs; whnf) <;> rfl) (by simp) (fun w hw j u hu => by rw [add_mk, Nat.zero_add]; exact hsb2.at (hw.own _ (List.mem_cons_self ..)) j u hu)) ?_
              refine OW.q rfl rfl (yq_fieldAddr rfl (by (conv => lhs; whnf) <;> rfl) tf44_1 ti9) ?_
              refine OW.store1 rfl rfl rfl (by (conv => lhs; whnf) <;> rfl) (by (conv => lhs; whnf) <;> rfl) ti9 (by rfl) (by repeat' first | exact Put.head | apply Put.tail) (by rfl) (Nat.le_of_ble_eq_true rfl) ?_
              refine OW.nil ?_
              exact ⟨(k : Int), S0.set (A % 16384).toNat B, rowV a1 P0.length c1, P0, rootL (leavesL [107]), Has.mk ⟨(by (conv => lhs; whnf) <;> rfl), (by (conv => lhs; whnf) <;> rfl), (by (conv => lhs; whnf) <;> rfl), (by (conv => lhs; whnf) <;> rfl), (by (conv => lhs; whnf) <;> rfl), (by (conv => lhs; whnf) <;> rfl), (by (conv => lhs; whnf) <;> rfl), (by (conv => lhs; whnf) <;> rfl), trivial⟩, (by repeat' first | exact List.mem_cons_self .. | apply List.mem_cons_of_mem), (by repeat' first | exact List.mem_cons_self .. | apply List.mem_cons_of_mem), (by repeat' first | exact List.Sublist.refl _ | exact List.nil_sublist _ | apply List.Sublist.cons_cons | apply List.Sublist.cons), (by have := hSl; first | omega | (simp; omega)), (by first | omega | (simp; omega)), fun w1 h1 => HsAt.row (l := P0) rfl (h1.own (.row a1 c1 P0.length 25 32 (P0.flatMap hc)) (by repeat' first | exact List.mem_cons_self .. | apply List.mem_cons_of_mem))⟩
            · refine CW.seq_k fun K22 hK22 => ?_
              refine CW.region ?_
              refine OW.q rfl rfl (yq_eql rfl (by (conv => lhs; whnf) <;> rfl) (by (conv => lhs; whnf) <;> rfl)) ?_
              refine OW.q rfl rfl (yq_assign rfl (by (conv => lhs; whnf) <;> rfl)) ?_
              refine OW.nil ?_
              refine hK22 _ _ ?_
              refine CW.cond_dec (by (conv => lhs; whnf) <;> rfl) (fun hc8 => ?_) (fun hc8 => ?_)
              · refine CW.region ?_
                refine OW.q rfl rfl (yq_fieldAddr rfl (by (conv => lhs; whnf) <;> rfl) tf107_3 ti22) ?_
                refine OW.q rfl rfl (yq_load1 rfl (by (conv => lhs; whnf) <;> rfl) ti22 (by repeat' first | exact List.mem_cons_self .. | apply List.mem_cons_of_mem) (by rfl)) ?_
                refine OW.q rfl rfl (yq_fieldAddr rfl (by (conv => lhs; whnf) <;> rfl) tf44_2 ti22) ?_
                refine OW.store1 rfl rfl rfl (by (conv => lhs; whnf) <;> rfl) (by (conv => lhs; whnf) <;> rfl) ti22 (by rfl) (by repeat' first | exact Put.head | apply Put.tail) (by rfl) (Nat.le_of_ble_eq_true rfl) ?_
                refine OW.nil ?_
                exact ⟨(k : Int), S0, .slice a0 p.length cap0, p, rootL (leavesL [107]), Has.mk ⟨(by (conv => lhs; whnf) <;> rfl), (by (conv => lhs; whnf) <;> rfl), (by (conv => lhs; whnf) <;> rfl), (by (conv => lhs; whnf) <;> rfl), (by (conv => lhs; whnf) <;> rfl), (by (conv => lhs; whnf) <;> rfl), (by (conv => lhs; whnf) <;> rfl), (by (conv => lhs; whnf) <;> rfl), trivial⟩, (by repeat' first | exact List.mem_cons_self .. | apply List.mem_cons_of_mem), (by repeat' first | exact List.mem_cons_self .. | apply List.mem_cons_of_mem), (by repeat' first | exact List.Sublist.refl _ | exact List.nil_sublist _ | apply List.Sublist.cons_cons | apply List.Sublist.cons), (by have := hSl; first | omega | (simp; omega)), (by first | omega | (simp; omega)), fun w1 h1 => hs.mono h1⟩
              · refine CW.seq_k fun K23 hK23 => ?_
                refine CW.region ?_
                refine OW.q rfl rfl (yq_eql rfl (by (conv => lhs; whnf) <;> rfl) (by (conv => lhs; whnf) <;> rfl)) ?_
                refine OW.q rfl rfl (yq_assign rfl (by (conv => lhs; whnf) <;> rfl)) ?_
                refine OW.nil ?_
                refine hK23 _ _ ?_
                refine CW.cond_dec (by (conv => lhs; whnf) <;> rfl) (fun hc9 => ?_) (fun hc9 => ?_)
                · refine CW.drawT 12 mixed (by kernel_rfl) ?_
                  refine QW.q rfl rfl (yq_fieldAddr rfl (by (conv => lhs; whnf) <;> rfl) tf44_1 ti9) ?_
                  refine QW.q rfl rfl (yq_load1 rfl (by (conv => lhs; whnf) <;> rfl) ti9 (by repeat' first | exact List.mem_cons_self .. | apply List.mem_cons_of_mem) (by rfl)) ?_
                  refine QW.q rfl rfl (yq_fieldAddr rfl (by (conv => lhs; whnf) <;> rfl) tf107_4 ti39) ?_
                  refine QW.q rfl rfl (yq_load1 rfl (by (conv => lhs; whnf) <;> rfl) ti39 (by repeat' first | exact List.mem_cons_self .. | apply List.mem_cons_of_mem) (by rfl)) ?_
                  refine QW.q rfl rfl (yq_conv_int (r := C) rfl Tryd.underlying39 Tryd.underlying3 (by (conv => lhs; whnf) <;> rfl) (wrap64_in (by omega))) ?_
                  refine QW.q rfl rfl (yq_fieldAddr rfl (by (conv => lhs; whnf) <;> rfl) tf44_1 ti9) ?_
                  refine QW.q rfl rfl (yq_load1 rfl (by (conv => lhs; whnf) <;> rfl) ti9 (by repeat' first | exact List.mem_cons_self .. | apply List.mem_cons_of_mem) (by rfl)) ?_
                  refine QW.q rfl rfl ((yq_len_bs rfl tt9 (by (conv => lhs; whnf) <;> rfl)).to (v' := .int .i64 16384) (by rw [hSl]; rfl)) ?_
                  refine QW.q rfl rfl (yq_add rfl (by (conv => lhs; whnf) <;> rfl) (by (conv => lhs; whnf) <;> rfl) (by omega)) ?_
                  refine QW.q rfl rfl (yq_rem rfl (by (conv => lhs; whnf) <;> rfl) (by (conv => lhs; whnf) <;> rfl) (by omega)) ?_
                  refine QW.q rfl rfl (yq_slice_bs_to (h := (C % (16384 + 1)).toNat) rfl (by (conv => lhs; whnf) <;> rfl) tt9 (by exact ⟨_, _, (by (conv => lhs; whnf) <;> rfl), by omega, rfl⟩) (by omega)) ?_
                  refine QW.q rfl rfl (yq_fieldAddr rfl (by (conv => lhs; whnf) <;> rfl) tf44_1 ti9) ?_
                  refine QW.nil ?_
                  refine OW.store1 rfl rfl rfl (by (conv => lhs; whnf) <;> rfl) (by (conv => lhs; whnf) <;> rfl) ti9 (by rfl) (by repeat' first | exact Put.head | apply Put.tail) (by rfl) (Nat.le_of_ble_eq_true rfl) ?_
                  refine OW.nil ?_
                  exact ⟨(k : Int), S0.take (C % (16384 + 1)).toNat, rowV a1 P0.length c1, P0, rootL (leavesL [107]), Has.mk ⟨(by (conv => lhs; whnf) <;> rfl), (by (conv => lhs; whnf) <;> rfl), (by (conv => lhs; whnf) <;> rfl), (by (conv => lhs; whnf) <;> rfl), (by (conv => lhs; whnf) <;> rfl), (by (conv => lhs; whnf) <;> rfl), (by (conv => lhs; whnf) <;> rfl), (by (conv => lhs; whnf) <;> rfl), trivial⟩, (by repeat' first | exact List.mem_cons_self .. | apply List.mem_cons_of_mem), (by repeat' first | exact List.mem_cons_self .. | apply List.mem_cons_of_mem), (by repeat' first | exact List.Sublist.refl _ | exact List.nil_sublist _ | apply List.Sublist.cons_cons | apply List.Sublist.cons), (by have := hSl; first | omega | (simp; omega)), (by first | omega | (simp; omega)), fun w1 h1 => HsAt.row (l := P0) rfl (h1.own (.row a1 c1 P0.length 25 32 (P0.flatMap hc)) (by repeat' first | exact List.mem_cons_self .. | apply List.mem_cons_of_mem))⟩
                · refine CW.seq_k fun K24 hK24 => ?_
                  refine CW.region ?_
                  refine OW.q rfl rfl (yq_eql rfl (by (conv => lhs; whnf) <;> rfl) (by (conv => lhs; whnf) <;> rfl)) ?_
                  refine OW.q rfl rfl (yq_assign rfl (by (conv => lhs; whnf) <;> rfl)) ?_
                  refine OW.nil ?_
                  refine hK24 _ _ ?_
                  refine CW.cond_dec (by (conv => lhs; whnf) <;> rfl) (fun hc10 => ?_) (fun hc10 => ?_)
                  · refine CW.region ?_
                    refine OW.q rfl rfl (yq_loadH rfl (by (conv => lhs; whnf) <;> rfl) ti25 (by repeat' first | exact List.mem_cons_self .. | apply List.mem_cons_of_mem)) ?_
                    refine OW.storeH rfl rfl rfl (by (conv => lhs; whnf) <;> rfl) (by (conv => lhs; whnf) <;> rfl) ti25 (by repeat' first | exact Put.head | apply Put.tail) (hc_length _) ?_
                    refine OW.nil ?_
                    exact ⟨(k : Int), S0, rowV a1 P0.length c1, P0, r, Has.mk ⟨(by (conv => lhs; whnf) <;> rfl), (by (conv => lhs; whnf) <;> rfl), (by (conv => lhs; whnf) <;> rfl), (by (conv => lhs; whnf) <;> rfl), (by (conv => lhs; whnf) <;> rfl), (by (conv => lhs; whnf) <;> rfl), (by (conv => lhs; whnf) <;> rfl), (by (conv => lhs; whnf) <;> rfl), trivial⟩, (by repeat' first | exact List.mem_cons_self .. | apply List.mem_cons_of_mem), (by repeat' first | exact List.mem_cons_self .. | apply List.mem_cons_of_mem), (by repeat' first | exact List.Sublist.refl _ | exact List.nil_sublist _ | apply List.Sublist.cons_cons | apply List.Sublist.cons), (by have := hSl; first | omega | (simp; omega)), (by first | omega | (simp; omega)), fun w1 h1 => HsAt.row (l := P0) rfl (h1.own (.row a1 c1 P0.length 25 32 (P0.flatMap hc)) (by repeat' first | exact List.mem_cons_self .. | apply List.mem_cons_of_mem))⟩
                  · refine CW.seq_k fun K25 hK25 => ?_
                    refine CW.region ?_
                    refine OW.q rfl rfl (yq_eql rfl (by (conv => lhs; whnf) <;> rfl) (by (conv => lhs; whnf) <;> rfl)) ?_
                    refine OW.q rfl rfl (yq_assign rfl (by (conv => lhs; whnf) <;> rfl)) ?_
                    refine OW.nil ?_
                    refine hK25 _ _ ?_
                    refine CW.cond_dec (by (conv => lhs; whnf) <;> rfl) (fun hc11 => ?_) (fun hc11 => ?_)
                    · refine CW.nilrow 25 32 ?_
                      refine CW.held ([.blk b8 ([.int .i64 (k : Int), .string (bs S0), rowV a1 P0.length c1]) 44 (0, 0), .blk b4 (hc r) 25 (0, 0)]) mixed ?_
                      refine HW.take 0 rfl (by kernel_rfl) (by kernel_rfl) (by kernel_rfl) rfl rfl (by repeat' first | exact List.Sublist.refl _ | exact List.nil_sublist _ | apply List.Sublist.cons_cons | apply List.Sublist.cons) (yv_of_yq rfl (yq_fieldAddr rfl (by (conv => lhs; whnf) <;> rfl) tf44_2 ti22)) ?_
                      refine HW.take 1 rfl (by kernel_rfl) (by kernel_rfl) (by kernel_rfl) rfl rfl (by repeat' first | exact List.Sublist.refl _ | exact List.nil_sublist _ | apply List.Sublist.cons_cons | apply List.Sublist.cons) (yv_of_yq rfl (yq_load1 rfl (by (conv => lhs; whnf) <;> rfl) ti22 (by repeat' first | exact List.mem_cons_self .. | apply List.mem_cons_of_mem) (by rfl))) ?_
                      refine HW.take 3 rfl (by kernel_rfl) (by kernel_rfl) (by kernel_rfl) rfl rfl (by repeat' first | exact List.Sublist.refl _ | exact List.nil_sublist _ | apply List.Sublist.cons_cons | apply List.Sublist.cons) (yv_of_yq rfl ((yq_loadH (v := r) rfl (by (conv => lhs; whnf) <;> rfl) ti25 (by repeat' first | exact List.mem_cons_self .. | apply List.mem_cons_of_mem)))) ?_
                      refine HW.two 2 4 (by kernel_rfl) rfl rfl ?_ ?_
                      · refine OW.appendRow (a := none) (cap := 0) (k := 0) rfl rfl rfl (by (conv => lhs; whnf) <;> rfl) (by (conv => lhs; whnf) <;> rfl) ts22 ti25 tz25 (by repeat' first | exact Del.head | apply Del.tail) (by repeat' first | exact List.mem_cons_self .. | apply List.mem_cons_of_mem) (by intro u hu; obtain ⟨x, _, hx⟩ := List.mem_flatMap.1 hu; exact hc_one x u hx) (hc_length _) (by decide) (by simp only [maxLen]; omega) (by omega) (fun a2 c2 => ?_)
                        refine OW.nil ⟨rfl, (by repeat' first | exact List.Sublist.refl _ | exact List.nil_sublist _ | apply List.Sublist.cons_cons | apply List.Sublist.cons), ?_⟩
                        refine HW.one 4 (by kernel_rfl) rfl ?_
                        refine OW.slicelit (vs := [HV r]) rfl rfl rfl rfl ts22 ti25 tz25 (by decide) rfl (by decide) (by simp [HV_cells]) (by decide) (cs := hc r) (by simp [HV_cells]) (fun bl => ?_)
                        refine OW.nil ⟨rfl, (by repeat' first | exact List.Sublist.refl _ | exact List.nil_sublist _ | apply List.Sublist.cons_cons | apply List.Sublist.cons), ?_⟩
                        refine HW.one 5 (by kernel_rfl) rfl ?_
                        refine OW.append (news := hc r) rfl rfl rfl (by (conv => lhs; whnf) <;> rfl) (by (conv => lhs; whnf) <;> rfl) ts22 ti25 tz25 (by repeat' first | exact Del.head | apply Del.tail) (blk_cells (by repeat' first | exact List.mem_cons_self .. | apply List.mem_cons_of_mem)) (by rw [hc_length]) (hc_one _) (hc_length _) (by decide) (by simp only [maxLen]; omega) (by omega) (fun a3 c3 => ?_)
                        refine OW.nil ⟨rfl, (by repeat' first | exact List.Sublist.refl _ | exact List.nil_sublist _ | apply List.Sublist.cons_cons | apply List.Sublist.cons), ?_⟩
                        refine HW.take 6 rfl (by kernel_rfl) (by kernel_rfl) (by kernel_rfl) rfl rfl (by repeat' first | exact List.Sublist.refl _ | exact List.nil_sublist _ | apply List.Sublist.cons_cons | apply List.Sublist.cons) (yv_of_yq rfl (yq_fieldAddr rfl (by (conv => lhs; whnf) <;> rfl) tf44_2 ti22)) ?_
                        refine HW.one 7 (by kernel_rfl) rfl ?_
                        refine OW.store1 rfl rfl rfl (by (conv => lhs; whnf) <;> rfl) (by (conv => lhs; whnf) <;> rfl) ti22 (by rfl) (by repeat' first | exact Put.head | apply Put.tail) (by rfl) (Nat.le_of_ble_eq_true rfl) ?_
                        refine OW.nil ⟨rfl, (by repeat' first | exact List.Sublist.refl _ | exact List.nil_sublist _ | apply List.Sublist.cons_cons | apply List.Sublist.cons), ?_⟩
                        refine HW.done (by kernel_rfl) ?_
                        exact ⟨(k : Int), S0, _, P0 ++ [r], rootL (leavesL [107]), Has.mk ⟨(by (conv => lhs; whnf) <;> rfl), (by (conv => lhs; whnf) <;> rfl), (by (conv => lhs; whnf) <;> rfl), (by (conv => lhs; whnf) <;> rfl), (by (conv => lhs; whnf) <;> rfl), (by (conv => lhs; whnf) <;> rfl), (by (conv => lhs; whnf) <;> rfl), (by (conv => lhs; whnf) <;> rfl), trivial⟩, (by repeat' first | exact List.mem_cons_self .. | apply List.mem_cons_of_mem), (by repeat' first | exact List.mem_cons_self .. | apply List.mem_cons_of_mem), (by repeat' first | exact List.Sublist.refl _ | exact List.nil_sublist _ | apply List.Sublist.cons_cons | apply List.Sublist.cons), (by have := hSl; first | omega | (simp; omega)), (by first | omega | (simp; omega)), fun w1 h1 => hsRow (a := a3) (cap := c3) (k := 0 + P0.length + 1) (T := 25) (xs := [] ++ P0.flatMap hc ++ hc r) (by simp) (by rw [List.nil_append, flat_snoc]) (h1.own _ (by repeat' first | exact List.mem_cons_self .. | apply List.mem_cons_of_mem))⟩
                      · refine OW.slicelit (vs := [HV r]) rfl rfl rfl rfl ts22 ti25 tz25 (by decide) rfl (by decide) (by simp [HV_cells]) (by decide) (cs := hc r) (by simp [HV_cells]) (fun bl => ?_)
                        refine OW.nil ⟨rfl, (by repeat' first | exact List.Sublist.refl _ | exact List.nil_sublist _ | apply List.Sublist.cons_cons | apply List.Sublist.cons), ?_⟩
                        refine HW.one 2 (by kernel_rfl) rfl ?_
                        refine OW.appendRow (a := none) (cap := 0) (k := 0) rfl rfl rfl (by (conv => lhs; whnf) <;> rfl) (by (conv => lhs; whnf) <;> rfl) ts22 ti25 tz25 (by repeat' first | exact Del.head | apply Del.tail) (by repeat' first | exact List.mem_cons_self .. | apply List.mem_cons_of_mem) (by intro u hu; obtain ⟨x, _, hx⟩ := List.mem_flatMap.1 hu; exact hc_one x u hx) (hc_length _) (by decide) (by simp only [maxLen]; omega) (by omega) (fun a2 c2 => ?_)
                        refine OW.nil ⟨rfl, (by repeat' first | exact List.Sublist.refl _ | exact List.nil_sublist _ | apply List.Sublist.cons_cons | apply List.Sublist.cons), ?_⟩
                        refine HW.one 5 (by kernel_rfl) rfl ?_
                        refine OW.append (news := hc r) rfl rfl rfl (by (conv => lhs; whnf) <;> rfl) (by (conv => lhs; whnf) <;> rfl) ts22 ti25 tz25 (by repeat' first | exact Del.head | apply Del.tail) (blk_cells (by repeat' first | exact List.mem_cons_self .. | apply List.mem_cons_of_mem)) (by rw [hc_length]) (hc_one _) (hc_length _) (by decide) (by simp only [maxLen]; omega) (by omega) (fun a3 c3 => ?_)
                        refine OW.nil ⟨rfl, (by repeat' first | exact List.Sublist.refl _ | exact List.nil_sublist _ | apply List.Sublist.cons_cons | apply List.Sublist.cons), ?_⟩
                        refine HW.take 6 rfl (by kernel_rfl) (by kernel_rfl) (by kernel_rfl) rfl rfl (by repeat' first | exact List.Sublist.refl _ | exact List.nil_sublist _ | apply List.Sublist.cons_cons | apply List.Sublist.cons) (yv_of_yq rfl (yq_fieldAddr rfl (by (conv => lhs; whnf) <;> rfl) tf44_2 ti22)) ?_
                        refine HW.one 7 (by kernel_rfl) rfl ?_
                        refine OW.store1 rfl rfl rfl (by (conv => lhs; whnf) <;> rfl) (by (conv => lhs; whnf) <;> rfl) ti22 (by rfl) (by repeat' first | exact Put.head | apply Put.tail) (by rfl) (Nat.le_of_ble_eq_true rfl) ?_
                        refine OW.nil ⟨rfl, (by repeat' first | exact List.Sublist.refl _ | exact List.nil_sublist _ | apply List.Sublist.cons_cons | apply List.Sublist.cons), ?_⟩
                        refine HW.done (by kernel_rfl) ?_
                        exact ⟨(k : Int), S0, _, P0 ++ [r], rootL (leavesL [107]), Has.mk ⟨(by (conv => lhs; whnf) <;> rfl), (by (conv => lhs; whnf) <;> rfl), (by (conv => lhs; whnf) <;> rfl), (by (conv => lhs; whnf) <;> rfl), (by (conv => lhs; whnf) <;> rfl), (by (conv => lhs; whnf) <;> rfl), (by (conv => lhs; whnf) <;> rfl), (by (conv => lhs; whnf) <;> rfl), trivial⟩, (by repeat' first | exact List.mem_cons_self .. | apply List.mem_cons_of_mem), (by repeat' first | exact List.mem_cons_self .. | apply List.mem_cons_of_mem), (by repeat' first | exact List.Sublist.refl _ | exact List.nil_sublist _ | apply List.Sublist.cons_cons | apply List.Sublist.cons), (by have := hSl; first | omega | (simp; omega)), (by first | omega | (simp; omega)), fun w1 h1 => hsRow (a := a3) (cap := c3) (k := 0 + P0.length + 1) (T := 25) (xs := [] ++ P0.flatMap hc ++ hc r) (by simp) (by rw [List.nil_append, flat_snoc]) (h1.own _ (by repeat' first | exact List.mem_cons_self .. | apply List.mem_cons_of_mem))⟩
                    · refine CW.skip ?_
                      exact ⟨(k : Int), S0, rowV a1 P0.length c1, P0, rootL (leavesL [107]), Has.mk ⟨(by (conv => lhs; whnf) <;> rfl), (by (conv => lhs; whnf) <;> rfl), (by (conv => lhs; whnf) <;> rfl), (by (conv => lhs; whnf) <;> rfl), (by (conv => lhs; whnf) <;> rfl), (by (conv => lhs; whnf) <;> rfl), (by (conv => lhs; whnf) <;> rfl), (by (conv => lhs; whnf) <;> rfl), trivial⟩, (by repeat' first | exact List.mem_cons_self .. | apply List.mem_cons_of_mem), (by repeat' first | exact List.mem_cons_self .. | apply List.mem_cons_of_mem), (by repeat' first | exact List.Sublist.refl _ | exact List.nil_sublist _ | apply List.Sublist.cons_cons | apply List.Sublist.cons), (by have := hSl; first | omega | (simp; omega)), (by first | omega | (simp; omega)), fun w1 h1 => HsAt.row (l := P0) rfl (h1.own (.row a1 c1 P0.length 25 32 (P0.flatMap hc)) (by repeat' first | exact List.mem_cons_self .. | apply List.mem_cons_of_mem))⟩
        · rintro _ L' ⟨i', s', v', p', rt, ⟨ρ', rfl⟩, hm12, hm11, hsub, hsl', hpl', hv'⟩
          have hm4 : Ent.blk b4 (hc r) 25 (0, 0) ∈ L' := hsub.mem (by repeat' first | exact List.mem_cons_self .. | apply List.mem_cons_of_mem)
          have hm5 : Ent.blk b5 (hc d) 25 (0, 0) ∈ L' := hsub.mem (by repeat' first | exact List.mem_cons_self .. | apply List.mem_cons_of_mem)
          refine hK16 _ _ ?_
          refine CW.seq_k fun K26 hK26 => ?_
          refine CW.draw mixed (by kernel_rfl) ?_
          refine QW.q rfl rfl ((yq_loadH (v := rt) rfl (by (conv => lhs; whnf) <;> rfl) ti25 hm12)) ?_
          refine QW.q rfl rfl ((yq_loadH (v := d) rfl (by (conv => lhs; whnf) <;> rfl) ti25 hm5)) ?_
          refine QW.q rfl rfl ((yq_loadA (vs := [.int .i64 i', .string (bs s'), v']) rfl (by (conv => lhs; whnf) <;> rfl) ti44 hm11 (fun j u hu => by rw [Nat.zero_add]; exact hu))) ?_
          refine QW.q rfl rfl (yq_call rfl rfl (.cons (by (conv => lhs; whnf) <;> rfl) ( .cons (by (conv => lhs; whnf) <;> rfl) ( .cons (by (conv => lhs; whnf) <;> rfl) .nil))) en78 (fun w hw => verify_calls rt d i' s' v' p' w (by omega) hpl' (hv' w hw) (Cl_gl0 hw hg))) ?_
          refine QW.q rfl rfl ((yq_loadH (v := rt) rfl (by (conv => lhs; whnf) <;> rfl) ti25 hm12)) ?_
          refine QW.q rfl rfl ((yq_loadH (v := d) rfl (by (conv => lhs; whnf) <;> rfl) ti25 hm5)) ?_
          refine QW.q rfl rfl ((yq_loadA (vs := [.int .i64 i', .string (bs s'), v']) rfl (by (conv => lhs; whnf) <;> rfl) ti44 hm11 (fun j u hu => by rw [Nat.zero_add]; exact hu))) ?_
          refine QW.q rfl rfl (yq_call rfl rfl (.cons (by (conv => lhs; whnf) <;> rfl) ( .cons (by (conv => lhs; whnf) <;> rfl) ( .cons (by (conv => lhs; whnf) <;> rfl) .nil))) en79 (fun w hw => refverify_calls rt d i' s' v' p' w (by omega) hpl' (hv' w hw))) ?_
          refine QW.q rfl rfl ((yq_neq rfl (by (conv => lhs; whnf) <;> rfl) (by (conv => lhs; whnf) <;> rfl)).to (v' := .bool false) (by simp)) ?_
          refine QW.q rfl rfl (yq_move rfl (by (conv => lhs; whnf) <;> rfl)) ?_
          refine QW.q rfl rfl ((yq_loadH (v := rt) rfl (by (conv => lhs; whnf) <;> rfl) ti25 hm12)) ?_
          refine QW.q rfl rfl ((yq_loadH (v := r) rfl (by (conv => lhs; whnf) <;> rfl) ti25 hm4)) ?_
          refine QW.q rfl rfl ((yq_loadA (vs := [.int .i64 i', .string (bs s'), v']) rfl (by (conv => lhs; whnf) <;> rfl) ti44 hm11 (fun j u hu => by rw [Nat.zero_add]; exact hu))) ?_
          refine QW.q rfl rfl (yq_call rfl rfl (.cons (by (conv => lhs; whnf) <;> rfl) ( .cons (by (conv => lhs; whnf) <;> rfl) ( .cons (by (conv => lhs; whnf) <;> rfl) .nil))) en78 (fun w hw => verify_calls rt r i' s' v' p' w (by omega) hpl' (hv' w hw) (Cl_gl0 hw hg))) ?_
          refine QW.q rfl rfl ((yq_loadH (v := rt) rfl (by (conv => lhs; whnf) <;> rfl) ti25 hm12)) ?_
          refine QW.q rfl rfl ((yq_loadH (v := r) rfl (by (conv => lhs; whnf) <;> rfl) ti25 hm4)) ?_
          refine QW.q rfl rfl ((yq_loadA (vs := [.int .i64 i', .string (bs s'), v']) rfl (by (conv => lhs; whnf) <;> rfl) ti44 hm11 (fun j u hu => by rw [Nat.zero_add]; exact hu))) ?_
          refine QW.q rfl rfl (yq_call rfl rfl (.cons (by (conv => lhs; whnf) <;> rfl) ( .cons (by (conv => lhs; whnf) <;> rfl) ( .cons (by (conv => lhs; whnf) <;> rfl) .nil))) en79 (fun w hw => refverify_calls rt r i' s' v' p' w (by omega) hpl' (hv' w hw))) ?_
          refine QW.q rfl rfl ((yq_neq rfl (by (conv => lhs; whnf) <;> rfl) (by (conv => lhs; whnf) <;> rfl)).to (v' := .bool false) (by simp)) ?_
          refine QW.q rfl rfl (yq_pick rfl (by (conv => lhs; whnf) <;> rfl) (by (conv => lhs; whnf) <;> rfl)) ?_
          refine QW.nil ?_
          refine hK26 _ _ ?_
          refine CW.cond_f (by (conv => lhs; whnf) <;> rfl) ?_
          refine CW.skip ?_
          refine hK13 _ _ ?_
          refine CW.drop hsub ?_
          refine CW.region ?_
          refine OW.q rfl rfl (yq_move rfl (by (conv => lhs; whnf) <;> rfl)) ?_
          refine OW.q rfl rfl (yq_add rfl (by (conv => lhs; whnf) <;> rfl) (by (conv => lhs; whnf) <;> rfl) (by omega)) ?_
          refine OW.q rfl rfl (yq_assign rfl (by (conv => lhs; whnf) <;> rfl)) ?_
          refine OW.nil ?_
          exact ⟨j + 1, ⟨Has.mk ⟨(by (conv => lhs; whnf) <;> rfl), (by (conv => lhs; whnf) <;> rfl), (by (conv => lhs; whnf) <;> rfl), (by (conv => lhs; whnf) <;> rfl), (by (conv => lhs; whnf) <;> rfl), (by (conv => lhs; whnf) <;> rfl), trivial⟩, by omega, rfl⟩, by omega⟩
      · refine CW.exit ?_
        refine then_exit ?_
        refine then_exit ?_
        refine blockQ_hit ?_
        refine hK9 _ _ ?_
        refine CW.seq_k fun K27 hK27 => ?_
        refine CW.region ?_
        refine OW.q rfl rfl (yq_call rfl rfl .nil en71 (fun w hw => planted_calls ho w (Cl_gl0 hw hg))) ?_
        refine OW.q rfl rfl (yq_assign rfl (by (conv => lhs; whnf) <;> rfl)) ?_
        refine OW.nil ?_
        refine hK27 _ _ ?_
        refine CW.ret ?_
        -- ret (ret)
        exact fin1 (Or.inr rfl) rfl ⟨by decide, (by (conv => lhs; whnf) <;> rfl)⟩ (fun w hw => ⟨rfl, hw.sub (List.nil_sublist _)⟩)

end Go.Proofs.YtahdekllphehkaaDoor

