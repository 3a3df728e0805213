/- Builders of text; no statement of the seat is proved here. -/
import Derived.Test.YtahdekllphehkaaDoorL15
import Derived.Test.YtahdekllphehkaaDoorA9
set_option linter.unusedVariables false
set_option linter.unusedSimpArgs false
namespace Go.Proofs.YtahdekllphehkaaDoor
open Go.WL Go.Spec

theorem lays240 : Go.Proofs.Lays.n240 Tryd.prog Tryd.lays105_ren := { Tryd.lays105 with }
def selfP (b : Nat) : Value := .pointer (some ⟨b, 0, none⟩)
theorem copyCheck_calls (b : Nat) (p v : Value) (w : World) (hp : p = .pointer none ∨ p = selfP b) (h : (Ent.blk b [p, v] 170 (0, 0)).ok w) :
    Calls Tryd.prog 154 #[selfP b] w fun e w' => e = .returned (.tuple #[]) ∧ Cl w [b] [.blk b [selfP b, v] 170 (0, 0)] w' := by
  have hb : w.heap[b]? = some (.cells [p, v].toArray 170 (0, 0)) := h
  have h0 : w.cell? ⟨b, 0, none⟩ = some p := by rw [cell_of_row w b 0 _ 170 (0, 0) hb]; rfl
  have hcl : Cl w [b] [.blk b [p, v] 170 (0, 0)] w := Cl.lent1 h
  rcases hp with rfl | rfl
  · refine (Go.Proofs.Any.Builder_copyCheck_fresh lays240 Tryd.Builder_Extra_105.toX72 b w h0 (by simp [World.shape?, hb]; rfl) (frozen_out hb _ (.inr (Nat.zero_le _)))).mono fun e w' ⟨h1, h2⟩ => ⟨h1, ?_⟩
    subst h2
    refine hcl.put (b := b) .head rfl rfl rfl rfl rfl (by simp [World.setCell]) (fun k hk => ?_) ?_
    · simp [World.setCell, Array.getElem?_modify, Ne.symm hk]
    · simp [Ent.ok, World.setCell, Array.getElem?_modify, hb, selfP]
  · refine (Go.Proofs.Any.Builder_copyCheck_used lays240 Tryd.Builder_Extra_105.toX72 b w h0).mono fun e w' ⟨h1, h2⟩ => ⟨h1, ?_⟩
    subst h2
    exact hcl

set_option maxRecDepth 100000 in
set_option maxHeartbeats 1000000 in
theorem wstr_calls (b : Nat) (p : Value) (a : Option Nat) (cap k : Nat) (xs : List Value) (l : Bytes) {w0 w : World} {E : List Nat} {Lk : List Ent} (hp : p = .pointer none ∨ p = selfP b) (hkl : k + l.length ≤ 140737488355328)
    (hc : Cl w0 E (.blk b [p, rowV a k cap] 170 (0, 0) :: .row a cap k 5 1 xs :: Lk) w) :
    Calls Tryd.prog 122 #[selfP b, .string (bs l)] w fun e w' => ∃ v' L1, e = .returned v' ∧ Cl w (b :: a.toList) L1 w' ∧ v' = .tuple #[.int .i64 (l.length : Int), .nilIface] ∧ ∃ a' cap', L1 = [.blk b [selfP b, rowV a' (k + l.length) cap'] 170 (0, 0), .row a' cap' (k + l.length) 5 1 (xs ++ bc l)] := by
  refine calls_of_CW (L := [.blk b [p, rowV a k cap] 170 (0, 0), .row a cap k 5 1 xs]) Tryd.func122 rfl (Nat.le_of_ble_eq_true rfl) (Cl.lent2 hc) ?_
  refine CW.seq_k fun K1 hK1 => ?_
  refine CW.region ?_
  refine OW.q rfl rfl (yq_assign rfl (by (conv => lhs; whnf) <;> rfl)) ?_
  refine OW.q rfl rfl (yq_assign rfl (by (conv => lhs; whnf) <;> rfl)) ?_
  refine OW.nil ?_
  refine hK1 _ _ ?_
  refine CW.seq_k fun K2 hK2 => ?_
  refine CW.region ?_
  refine OW.q rfl rfl (yq_move rfl (by (conv => lhs; whnf) <;> rfl)) ?_
  refine OW.calle (K := fun v1 L1 => v1 = .tuple #[] ∧ L1 = [.blk b [selfP b, rowV a k cap] 170 (0, 0)]) [b] [.row a cap k 5 1 xs] rfl rfl rfl (by (conv => lhs; whnf) <;> rfl) (.cons (by (conv => lhs; whnf) <;> rfl) .nil) en154 (fun b' hb' => ⟨_, List.mem_cons_self .., by rw [List.mem_singleton] at hb'; rw [hb']; rfl⟩) (List.sublist_cons_self _ _) (fun w1 hw1 => lend_apart (A := [_]) hw1 (fun b' hb' => ⟨_, List.mem_cons_self .., by rw [List.mem_singleton] at hb'; rw [hb']; rfl⟩)) (fun w1 hw1 => (copyCheck_calls b p (rowV a k cap) w1 hp (hw1.own _ (List.mem_cons_self ..))).mono fun e w' ⟨h1, h2⟩ => ⟨_, _, h1, h2, rfl, rfl⟩) ?_
  rintro _ _ ⟨rfl, rfl⟩
  refine OW.nil ?_
  refine hK2 _ _ ?_
  refine CW.seq_k fun K3 hK3 => ?_
  refine CW.region ?_
  refine OW.q rfl rfl (yq_move rfl (by (conv => lhs; whnf) <;> rfl)) ?_
  refine OW.q rfl rfl (yq_move rfl (by (conv => lhs; whnf) <;> rfl)) ?_
  refine OW.q rfl rfl (yq_nilCheck rfl (by (conv => lhs; whnf) <;> rfl)) ?_
  refine OW.q rfl rfl (yq_fieldAddr rfl (by (conv => lhs; whnf) <;> rfl) tf170_1 ti92) ?_
  refine OW.q rfl rfl ((yq_load1 rfl (by (conv => lhs; whnf) <;> rfl) ti92 (by repeat' first | exact List.mem_cons_self .. | apply List.mem_cons_of_mem) (by rfl))) ?_
  refine OW.q rfl rfl (yq_move rfl (by (conv => lhs; whnf) <;> rfl)) ?_
  refine OW.appendS rfl rfl rfl (by (conv => lhs; whnf) <;> rfl) (by (conv => lhs; whnf) <;> rfl) ts92 tt9 ti5 tz5 (by kernel_rfl) (by repeat' first | exact Del.head | apply Del.tail) hkl (fun a' cap' => ?_)
  refine OW.q rfl rfl (yq_nilCheck rfl (by (conv => lhs; whnf) <;> rfl)) ?_
  refine OW.q rfl rfl (yq_fieldAddr rfl (by (conv => lhs; whnf) <;> rfl) tf170_1 ti92) ?_
  refine OW.store1 rfl rfl rfl (by (conv => lhs; whnf) <;> rfl) (by (conv => lhs; whnf) <;> rfl) ti92 (by rfl) (by repeat' first | exact Put.head | apply Put.tail) (by rfl) (Nat.le_of_ble_eq_true rfl) ?_
  refine OW.nil ?_
  refine hK3 _ _ ?_
  refine CW.seq_k fun K4 hK4 => ?_
  refine CW.region ?_
  refine OW.q rfl rfl (yq_move rfl (by (conv => lhs; whnf) <;> rfl)) ?_
  refine OW.q rfl rfl (yq_len_bs rfl tt9 (by (conv => lhs; whnf) <;> rfl)) ?_
  refine OW.q rfl rfl (yq_assign rfl (by (conv => lhs; whnf) <;> rfl)) ?_
  refine OW.q rfl rfl (yq_assign rfl (by (conv => lhs; whnf) <;> rfl)) ?_
  refine OW.nil ?_
  refine hK4 _ _ ?_
  refine CW.ret ?_
  -- ret (ret)
  exact fin2 (Or.inr rfl) rfl ⟨by decide, (by (conv => lhs; whnf) <;> rfl)⟩ ⟨by decide, (by (conv => lhs; whnf) <;> rfl)⟩ (fun w hw => ⟨_, _, rfl, hw.perm (.swap _ _ _), rfl, a', cap', rfl⟩)

set_option maxRecDepth 100000 in
set_option maxHeartbeats 1000000 in
theorem wbyte_calls (b : Nat) (p : Value) (a : Option Nat) (cap k : Nat) (xs : List Value) (x : UInt8) {w0 w : World} {E : List Nat} {Lk : List Ent} (hp : p = .pointer none ∨ p = selfP b) (hkl : k + 1 ≤ 140737488355328)
    (hc : Cl w0 E (.blk b [p, rowV a k cap] 170 (0, 0) :: .row a cap k 5 1 xs :: Lk) w) :
    Calls Tryd.prog 130 #[selfP b, U8 x] w fun e w' => ∃ v' L1, e = .returned v' ∧ Cl w (b :: a.toList) L1 w' ∧ v' = .nilIface ∧ ∃ a' cap', L1 = [.blk b [selfP b, rowV a' (k + 1) cap'] 170 (0, 0), .row a' cap' (k + 1) 5 1 (xs ++ [U8 x])] := by
  refine calls_of_CW (L := [.blk b [p, rowV a k cap] 170 (0, 0), .row a cap k 5 1 xs]) Tryd.func130 rfl (Nat.le_of_ble_eq_true rfl) (Cl.lent2 hc) ?_
  refine CW.seq_k fun K1 hK1 => ?_
  refine CW.region ?_
  refine OW.q rfl rfl (yq_assign rfl (by (conv => lhs; whnf) <;> rfl)) ?_
  refine OW.nil ?_
  refine hK1 _ _ ?_
  refine CW.seq_k fun K2 hK2 => ?_
  refine CW.region ?_
  refine OW.q rfl rfl (yq_move rfl (by (conv => lhs; whnf) <;> rfl)) ?_
  refine OW.calle (K := fun v1 L1 => v1 = .tuple #[] ∧ L1 = [.blk b [selfP b, rowV a k cap] 170 (0, 0)]) [b] [.row a cap k 5 1 xs] rfl rfl rfl (by (conv => lhs; whnf) <;> rfl) (.cons (by (conv => lhs; whnf) <;> rfl) .nil) en154 (fun b' hb' => ⟨_, List.mem_cons_self .., by rw [List.mem_singleton] at hb'; rw [hb']; rfl⟩) (List.sublist_cons_self _ _) (fun w1 hw1 => lend_apart (A := [_]) hw1 (fun b' hb' => ⟨_, List.mem_cons_self .., by rw [List.mem_singleton] at hb'; rw [hb']; rfl⟩)) (fun w1 hw1 => (copyCheck_calls b p (rowV a k cap) w1 hp (hw1.own _ (List.mem_cons_self ..))).mono fun e w' ⟨h1, h2⟩ => ⟨_, _, h1, h2, rfl, rfl⟩) ?_
  rintro _ _ ⟨rfl, rfl⟩
  refine OW.nil ?_
  refine hK2 _ _ ?_
  refine CW.seq_k fun K3 hK3 => ?_
  refine CW.region ?_
  refine OW.q rfl rfl (yq_move rfl (by (conv => lhs; whnf) <;> rfl)) ?_
  refine OW.q rfl rfl (yq_move rfl (by (conv => lhs; whnf) <;> rfl)) ?_
  refine OW.q rfl rfl (yq_nilCheck rfl (by (conv => lhs; whnf) <;> rfl)) ?_
  refine OW.q rfl rfl (yq_fieldAddr rfl (by (conv => lhs; whnf) <;> rfl) tf170_1 ti92) ?_
  refine OW.q rfl rfl ((yq_load1 rfl (by (conv => lhs; whnf) <;> rfl) ti92 (by repeat' first | exact List.mem_cons_self .. | apply List.mem_cons_of_mem) (by rfl))) ?_
  refine OW.q rfl rfl (yq_move rfl (by (conv => lhs; whnf) <;> rfl)) ?_
  refine OW.slicelit (vs := [U8 x]) rfl rfl rfl rfl ts92 ti5 tz5 (by decide) rfl (by decide) (by simp [Value.cells]) (by decide) (cs := [U8 x]) rfl (fun bl => ?_)
  refine OW.append (news := [U8 x]) rfl rfl rfl (by (conv => lhs; whnf) <;> rfl) (by (conv => lhs; whnf) <;> rfl) ts92 ti5 tz5 (by repeat' first | exact Del.head | apply Del.tail) (blk_cells (by repeat' first | exact List.mem_cons_self .. | apply List.mem_cons_of_mem)) rfl (by simp; rfl) rfl (by decide) (by simp only [maxLen]; omega) (by omega) (fun a' cap' => ?_)
  refine OW.q rfl rfl (yq_nilCheck rfl (by (conv => lhs; whnf) <;> rfl)) ?_
  refine OW.q rfl rfl (yq_fieldAddr rfl (by (conv => lhs; whnf) <;> rfl) tf170_1 ti92) ?_
  refine OW.store1 rfl rfl rfl (by (conv => lhs; whnf) <;> rfl) (by (conv => lhs; whnf) <;> rfl) ti92 (by rfl) (by repeat' first | exact Put.head | apply Put.tail) (by rfl) (Nat.le_of_ble_eq_true rfl) ?_
  refine OW.nil ?_
  refine hK3 _ _ ?_
  refine CW.seq_k fun K4 hK4 => ?_
  refine CW.region ?_
  refine OW.q rfl rfl (yq_assign rfl (by (conv => lhs; whnf) <;> rfl)) ?_
  refine OW.nil ?_
  refine hK4 _ _ ?_
  refine CW.ret ?_
  -- ret (ret)
  exact fin1 (Or.inr rfl) rfl ⟨by decide, (by (conv => lhs; whnf) <;> rfl)⟩ (fun w hw => ⟨_, _, rfl, (hw.sub (L' := [.row a' cap' (k + 1) 5 1 (xs ++ [U8 x]), .blk b [selfP b, rowV a' (k + 1) cap'] 170 (0, 0)]) (.cons_cons _ (.cons _ (.refl _)))).perm (.swap _ _ _), rfl, a', cap', rfl⟩)

set_option maxRecDepth 100000 in
set_option maxHeartbeats 1000000 in
theorem bstr_calls (b g : Nat) (p : Value) (cap : Nat) (l : Bytes) {w0 w : World} {E : List Nat} {Lk : List Ent} (h0 : l ≠ [])
    (hc : Cl w0 E (.blk b [p, rowV (some g) l.length cap] 170 (0, 0) :: .row (some g) cap l.length 5 1 (bc l) :: Lk) w) :
    Calls Tryd.prog 123 #[selfP b] w fun e w' => e = .returned (.string (bs l)) ∧ Cl w [b, g] [.blk b [p, rowV (some g) l.length cap] 170 (0, 0)] w' := by
  have hcap0 : cap ≠ 0 := by
    have hown : w.ownsRow 0 5 1 (rowV (some g) l.length cap) l.length (bc l) := hc.own (.row (some g) cap l.length 5 1 (bc l)) (by simp)
    rcases hown.2 with ⟨hv, _⟩ | ⟨g', cap', cur, hv, _, _, hnc, _⟩
    · simp [rowV] at hv
    · simp only [rowV, Option.map_some, Value.slice.injEq, Option.some.injEq, Addr.mk.injEq, and_true, true_and] at hv
      obtain ⟨_, rfl⟩ := hv
      have := List.length_pos_iff.2 h0
      omega
  refine calls_of_CW (L := [.blk b [p, rowV (some g) l.length cap] 170 (0, 0), .row (some g) cap l.length 5 1 (bc l)]) Tryd.func123 rfl (Nat.le_of_ble_eq_true rfl) (Cl.lent2 hc) ?_
  refine CW.seq_k fun K1 hK1 => ?_
  refine CW.region ?_
  refine OW.q rfl rfl (yq_assign rfl (by (conv => lhs; whnf) <;> rfl)) ?_
  refine OW.nil ?_
  refine hK1 _ _ ?_
  refine CW.seq_k fun K2 hK2 => ?_
  refine CW.held ([.blk b [p, rowV (some g) l.length cap] 170 (0, 0)]) mixed ?_
  refine HW.take 0 rfl (by kernel_rfl) (by kernel_rfl) (by kernel_rfl) rfl rfl (by repeat' first | exact List.Sublist.refl _ | exact List.nil_sublist _ | apply List.Sublist.cons_cons | apply List.Sublist.cons) (yv_of_yq rfl (yq_move rfl (by (conv => lhs; whnf) <;> rfl))) ?_
  refine HW.take 1 rfl (by kernel_rfl) (by kernel_rfl) (by kernel_rfl) rfl rfl (by repeat' first | exact List.Sublist.refl _ | exact List.nil_sublist _ | apply List.Sublist.cons_cons | apply List.Sublist.cons) (yv_nilCheck rfl (by (conv => lhs; whnf) <;> rfl)) ?_
  refine HW.take 2 rfl (by kernel_rfl) (by kernel_rfl) (by kernel_rfl) rfl rfl (by repeat' first | exact List.Sublist.refl _ | exact List.nil_sublist _ | apply List.Sublist.cons_cons | apply List.Sublist.cons) (yv_of_yq rfl (yq_fieldAddr rfl (by (conv => lhs; whnf) <;> rfl) tf170_1 ti92)) ?_
  refine HW.take 3 rfl (by kernel_rfl) (by kernel_rfl) (by kernel_rfl) rfl rfl (by repeat' first | exact List.Sublist.refl _ | exact List.nil_sublist _ | apply List.Sublist.cons_cons | apply List.Sublist.cons) (yv_of_yq rfl ((yq_load1 rfl (by (conv => lhs; whnf) <;> rfl) ti92 (by repeat' first | exact List.mem_cons_self .. | apply List.mem_cons_of_mem) (by rfl)))) ?_
  refine HW.take 5 rfl (by kernel_rfl) (by kernel_rfl) (by kernel_rfl) rfl rfl (by repeat' first | exact List.Sublist.refl _ | exact List.nil_sublist _ | apply List.Sublist.cons_cons | apply List.Sublist.cons) (yv_of_yq rfl (yq_move rfl (by (conv => lhs; whnf) <;> rfl))) ?_
  refine HW.take 6 rfl (by kernel_rfl) (by kernel_rfl) (by kernel_rfl) rfl rfl (by repeat' first | exact List.Sublist.refl _ | exact List.nil_sublist _ | apply List.Sublist.cons_cons | apply List.Sublist.cons) (yv_nilCheck rfl (by (conv => lhs; whnf) <;> rfl)) ?_
  refine HW.take 7 rfl (by kernel_rfl) (by kernel_rfl) (by kernel_rfl) rfl rfl (by repeat' first | exact List.Sublist.refl _ | exact List.nil_sublist _ | apply List.Sublist.cons_cons | apply List.Sublist.cons) (yv_of_yq rfl (yq_fieldAddr rfl (by (conv => lhs; whnf) <;> rfl) tf170_1 ti92)) ?_
  refine HW.take 8 rfl (by kernel_rfl) (by kernel_rfl) (by kernel_rfl) rfl rfl (by repeat' first | exact List.Sublist.refl _ | exact List.nil_sublist _ | apply List.Sublist.cons_cons | apply List.Sublist.cons) (yv_of_yq rfl ((yq_load1 rfl (by (conv => lhs; whnf) <;> rfl) ti92 (by repeat' first | exact List.mem_cons_self .. | apply List.mem_cons_of_mem) (by rfl)))) ?_
  refine HW.take 9 rfl (by kernel_rfl) (by kernel_rfl) (by kernel_rfl) rfl rfl (by repeat' first | exact List.Sublist.refl _ | exact List.nil_sublist _ | apply List.Sublist.cons_cons | apply List.Sublist.cons) (yv_len_slice rfl ts92 (by (conv => lhs; whnf) <;> rfl)) ?_
  refine HW.one 4 (by kernel_rfl) rfl ?_
  refine OW.q rfl rfl (yq_sliceData rfl (by (conv => lhs; whnf) <;> rfl) hcap0) ?_
  refine OW.nil ⟨rfl, (by repeat' first | exact List.Sublist.refl _ | exact List.nil_sublist _ | apply List.Sublist.cons_cons | apply List.Sublist.cons), ?_⟩
  refine HW.one 10 (by kernel_rfl) rfl ?_
  refine OW.ustring rfl rfl rfl (by (conv => lhs; whnf) <;> rfl) (by (conv => lhs; whnf) <;> rfl) Tryd.underlying199 (by kernel_rfl) (by repeat' first | exact Del.head | apply Del.tail) h0 ?_
  refine OW.nil ⟨rfl, (by repeat' first | exact List.Sublist.refl _ | exact List.nil_sublist _ | apply List.Sublist.cons_cons | apply List.Sublist.cons), ?_⟩
  refine HW.take 11 rfl (by kernel_rfl) (by kernel_rfl) (by kernel_rfl) rfl rfl (by repeat' first | exact List.Sublist.refl _ | exact List.nil_sublist _ | apply List.Sublist.cons_cons | apply List.Sublist.cons) (yv_of_yq rfl (yq_assign rfl (by (conv => lhs; whnf) <;> rfl))) ?_
  refine HW.done (by kernel_rfl) ?_
  refine hK2 _ _ ?_
  refine CW.ret ?_
  -- ret (ret)
  exact fin1 (Or.inr rfl) rfl ⟨by decide, (by (conv => lhs; whnf) <;> rfl)⟩ (fun w hw => ⟨rfl, hw⟩)

end Go.Proofs.YtahdekllphehkaaDoor
