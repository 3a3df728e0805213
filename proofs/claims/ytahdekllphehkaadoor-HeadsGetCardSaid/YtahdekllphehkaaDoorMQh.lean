/- Bytes and keys; no statement of the seat is proved here. -/
import Derived.Test.YtahdekllphehkaaDoorMLh
import Derived.Test.YtahdekllphehkaaDoorMAh
import Derived.Test.YtahdekllphehkaaDoorMSh
import Derived.Test.YtahdekllphehkaaDoorMPh
set_option linter.unusedVariables false
set_option linter.unusedSimpArgs false
namespace Go.Proofs.YtahdekllphehkaaDoor
open Go.WL Go.Spec
theorem lays240 : Go.Proofs.Lays.n240 Tryd.prog Tryd.lays105_ren := { Tryd.lays105 with }
def selfP (b : Nat) : Value := .pointer (some ⟨b, 0, none⟩)
theorem copyCheck_calls (b : Nat) (p v : Value) (w : World) (hp : p = .pointer none ∨ p = selfP b) (h : (Ent.blk b [p, v] 170 (0, 0)).ok w) :
    Calls Tryd.prog 154 #[selfP b] w fun e w' => e = .returned (.tuple #[]) ∧ Cl w [b] [.blk b [selfP b, v] 170 (0, 0)] w' := by
  have hb : w.heap[b]? = some (.cells [p, v].toArray 170 (0, 0)) := h
  have h0 : w.cell? ⟨b, 0, none⟩ = some p := by rw [cell_of_row w b 0 _ 170 (0, 0) hb]; rfl
  have hcl : Cl w [b] [.blk b [p, v] 170 (0, 0)] w := Cl.lent1 h
  rcases hp with rfl | rfl
  · refine (Go.Proofs.Any.Builder_copyCheck_fresh lays240 Tryd.Builder_Extra_105.toX72 b w h0 (by simp [World.shape?, hb]; rfl) (frozen_out hb _ (.inr (Nat.zero_le _)))).mono fun e w' ⟨h1, h2⟩ => ⟨h1, ?_⟩
    subst h2
    refine hcl.put (b := b) .head rfl rfl rfl rfl rfl (by simp [World.setCell]) (fun k hk => ?_) ?_
    · simp [World.setCell, Array.getElem?_modify, Ne.symm hk]
    · simp [Ent.ok, World.setCell, Array.getElem?_modify, hb, selfP]
  · refine (Go.Proofs.Any.Builder_copyCheck_used lays240 Tryd.Builder_Extra_105.toX72 b w h0).mono fun e w' ⟨h1, h2⟩ => ⟨h1, ?_⟩
    subst h2
    exact hcl
set_option maxRecDepth 100000 in
set_option maxHeartbeats 1000000 in
theorem wstr_calls (b : Nat) (p : Value) (a : Option Nat) (cap k : Nat) (xs : List Value) (l : Bytes) {w0 w : World} {E : List Nat} {Lk : List Ent} (hp : p = .pointer none ∨ p = selfP b) (hkl : k + l.length ≤ 140737488355328)
    (hc : Cl w0 E (.blk b [p, rowV a k cap] 170 (0, 0) :: .row a cap k 5 1 xs :: Lk) w) :
    Calls Tryd.prog 122 #[selfP b, .string (bs l)] w fun e w' => ∃ v' L1, e = .returned v' ∧ Cl w (b :: a.toList) L1 w' ∧ v' = .tuple #[.int .i64 (l.length : Int), .nilIface] ∧ ∃ a' cap', L1 = [.blk b [selfP b, rowV a' (k + l.length) cap'] 170 (0, 0), .row a' cap' (k + l.length) 5 1 (xs ++ bc l)] := by
  refine calls_of_CW (L := [.blk b [p, rowV a k cap] 170 (0, 0), .row a cap k 5 1 xs]) Tryd.func122 rfl (Nat.le_of_ble_eq_true rfl) (Cl.lent2 hc) ?_
  refine CW.seq_k fun K1 hK1 => ?_
  refine CW.region ?_
  refine OW.q rfl rfl (yq_assign rfl (by (conv => lhs; whnf) <;> rfl)) ?_
  refine OW.q rfl rfl (yq_assign rfl (by (conv => lhs; whnf) <;> rfl)) ?_
  refine OW.nil ?_
  refine hK1 _ _ ?_
  refine CW.seq_k fun K2 hK2 => ?_
  refine CW.region ?_
  refine OW.q rfl rfl (yq_move rfl (by (conv => lhs; whnf) <;> rfl)) ?_
  refine OW.calle (K := fun v1 L1 => v1 = .tuple #[] ∧ L1 = [.blk b [selfP b, rowV a k cap] 170 (0, 0)]) [b] [.row a cap k 5 1 xs] rfl rfl rfl (by (conv => lhs; whnf) <;> rfl) (.cons (by (conv => lhs; whnf) <;> rfl) .nil) en154 (fun b' hb' => ⟨_, List.mem_cons_self .., by rw [List.mem_singleton] at hb'; rw [hb']; rfl⟩) (List.sublist_cons_self _ _) (fun w1 hw1 => lend_apart (A := [_]) hw1 (fun b' hb' => ⟨_, List.mem_cons_self .., by rw [List.mem_singleton] at hb'; rw [hb']; rfl⟩)) (fun w1 hw1 => (copyCheck_calls b p (rowV a k cap) w1 hp (hw1.own _ (List.mem_cons_self ..))).mono fun e w' ⟨h1, h2⟩ => ⟨_, _, h1, h2, rfl, rfl⟩) ?_
  rintro _ _ ⟨rfl, rfl⟩
  refine OW.nil ?_
  refine hK2 _ _ ?_
  refine CW.seq_k fun K3 hK3 => ?_
  refine CW.region ?_
  refine OW.q rfl rfl (yq_move rfl (by (conv => lhs; whnf) <;> rfl)) ?_
  refine OW.q rfl rfl (yq_move rfl (by (conv => lhs; whnf) <;> rfl)) ?_
  refine OW.q rfl rfl (yq_nilCheck rfl (by (conv => lhs; whnf) <;> rfl)) ?_
  refine OW.q rfl rfl (yq_fieldAddr rfl (by (conv => lhs; whnf) <;> rfl) tf170_1 ti92) ?_
  refine OW.q rfl rfl ((yq_load1 rfl (by (conv => lhs; whnf) <;> rfl) ti92 (by repeat' first | exact List.mem_cons_self .. | apply List.mem_cons_of_mem) (by rfl))) ?_
  refine OW.q rfl rfl (yq_move rfl (by (conv => lhs; whnf) <;> rfl)) ?_
  refine OW.appendS rfl rfl rfl (by (conv => lhs; whnf) <;> rfl) (by (conv => lhs; whnf) <;> rfl) ts92 tt9 ti5 tz5 (by kernel_rfl) (by repeat' first | exact Del.head | apply Del.tail) hkl (fun a' cap' => ?_)
  refine OW.q rfl rfl (yq_nilCheck rfl (by (conv => lhs; whnf) <;> rfl)) ?_
  refine OW.q rfl rfl (yq_fieldAddr rfl (by (conv => lhs; whnf) <;> rfl) tf170_1 ti92) ?_
  refine OW.store1 rfl rfl rfl (by (conv => lhs; whnf) <;> rfl) (by (conv => lhs; whnf) <;> rfl) ti92 (by rfl) (by repeat' first | exact Put.head | apply Put.tail) (by rfl) (Nat.le_of_ble_eq_true rfl) ?_
  refine OW.nil ?_
  refine hK3 _ _ ?_
  refine CW.seq_k fun K4 hK4 => ?_
  refine CW.region ?_
  refine OW.q rfl rfl (yq_move rfl (by (conv => lhs; whnf) <;> rfl)) ?_
  refine OW.q rfl rfl (yq_len_bs rfl tt9 (by (conv => lhs; whnf) <;> rfl)) ?_
  refine OW.q rfl rfl (yq_assign rfl (by (conv => lhs; whnf) <;> rfl)) ?_
  refine OW.q rfl rfl (yq_assign rfl (by (conv => lhs; whnf) <;> rfl)) ?_
  refine OW.nil ?_
  refine hK4 _ _ ?_
  refine CW.ret ?_
  -- ret (ret)
  exact fin2 (Or.inr rfl) rfl ⟨by decide, (by (conv => lhs; whnf) <;> rfl)⟩ ⟨by decide, (by (conv => lhs; whnf) <;> rfl)⟩ (fun w hw => ⟨_, _, rfl, hw.perm (.swap _ _ _), rfl, a', cap', rfl⟩)
set_option maxRecDepth 100000 in
set_option maxHeartbeats 1000000 in
theorem wbyte_calls (b : Nat) (p : Value) (a : Option Nat) (cap k : Nat) (xs : List Value) (x : UInt8) {w0 w : World} {E : List Nat} {Lk : List Ent} (hp : p = .pointer none ∨ p = selfP b) (hkl : k + 1 ≤ 140737488355328)
    (hc : Cl w0 E (.blk b [p, rowV a k cap] 170 (0, 0) :: .row a cap k 5 1 xs :: Lk) w) :
    Calls Tryd.prog 130 #[selfP b, U8 x] w fun e w' => ∃ v' L1, e = .returned v' ∧ Cl w (b :: a.toList) L1 w' ∧ v' = .nilIface ∧ ∃ a' cap', L1 = [.blk b [selfP b, rowV a' (k + 1) cap'] 170 (0, 0), .row a' cap' (k + 1) 5 1 (xs ++ [U8 x])] := by
  refine calls_of_CW (L := [.blk b [p, rowV a k cap] 170 (0, 0), .row a cap k 5 1 xs]) Tryd.func130 rfl (Nat.le_of_ble_eq_true rfl) (Cl.lent2 hc) ?_
  refine CW.seq_k fun K1 hK1 => ?_
  refine CW.region ?_
  refine OW.q rfl rfl (yq_assign rfl (by (conv => lhs; whnf) <;> rfl)) ?_
  refine OW.nil ?_
  refine hK1 _ _ ?_
  refine CW.seq_k fun K2 hK2 => ?_
  refine CW.region ?_
  refine OW.q rfl rfl (yq_move rfl (by (conv => lhs; whnf) <;> rfl)) ?_
  refine OW.calle (K := fun v1 L1 => v1 = .tuple #[] ∧ L1 = [.blk b [selfP b, rowV a k cap] 170 (0, 0)]) [b] [.row a cap k 5 1 xs] rfl rfl rfl (by (conv => lhs; whnf) <;> rfl) (.cons (by (conv => lhs; whnf) <;> rfl) .nil) en154 (fun b' hb' => ⟨_, List.mem_cons_self .., by rw [List.mem_singleton] at hb'; rw [hb']; rfl⟩) (List.sublist_cons_self _ _) (fun w1 hw1 => lend_apart (A := [_]) hw1 (fun b' hb' => ⟨_, List.mem_cons_self .., by rw [List.mem_singleton] at hb'; rw [hb']; rfl⟩)) (fun w1 hw1 => (copyCheck_calls b p (rowV a k cap) w1 hp (hw1.own _ (List.mem_cons_self ..))).mono fun e w' ⟨h1, h2⟩ => ⟨_, _, h1, h2, rfl, rfl⟩) ?_
  rintro _ _ ⟨rfl, rfl⟩
  refine OW.nil ?_
  refine hK2 _ _ ?_
  refine CW.seq_k fun K3 hK3 => ?_
  refine CW.region ?_
  refine OW.q rfl rfl (yq_move rfl (by (conv => lhs; whnf) <;> rfl)) ?_
  refine OW.q rfl rfl (yq_move rfl (by (conv => lhs; whnf) <;> rfl)) ?_
  refine OW.q rfl rfl (yq_nilCheck rfl (by (conv => lhs; whnf) <;> rfl)) ?_
  refine OW.q rfl rfl (yq_fieldAddr rfl (by (conv => lhs; whnf) <;> rfl) tf170_1 ti92) ?_
  refine OW.q rfl rfl ((yq_load1 rfl (by (conv => lhs; whnf) <;> rfl) ti92 (by repeat' first | exact List.mem_cons_self .. | apply List.mem_cons_of_mem) (by rfl))) ?_
  refine OW.q rfl rfl (yq_move rfl (by (conv => lhs; whnf) <;> rfl)) ?_
  refine OW.slicelit (vs := [U8 x]) rfl rfl rfl rfl ts92 ti5 tz5 (by decide) rfl (by decide) (by simp [Value.cells]) (by decide) (cs := [U8 x]) rfl (fun bl => ?_)
  refine OW.append (news := [U8 x]) rfl rfl rfl (by (conv => lhs; whnf) <;> rfl) (by (conv => lhs; whnf) <;> rfl) ts92 ti5 tz5 (by repeat' first | exact Del.head | apply Del.tail) (blk_cells (by repeat' first | exact List.mem_cons_self .. | apply List.mem_cons_of_mem)) rfl (by simp; rfl) rfl (by decide) (by simp only [maxLen]; omega) (by omega) (fun a' cap' => ?_)
  refine OW.q rfl rfl (yq_nilCheck rfl (by (conv => lhs; whnf) <;> rfl)) ?_
  refine OW.q rfl rfl (yq_fieldAddr rfl (by (conv => lhs; whnf) <;> rfl) tf170_1 ti92) ?_
  refine OW.store1 rfl rfl rfl (by (conv => lhs; whnf) <;> rfl) (by (conv => lhs; whnf) <;> rfl) ti92 (by rfl) (by repeat' first | exact Put.head | apply Put.tail) (by rfl) (Nat.le_of_ble_eq_true rfl) ?_
  refine OW.nil ?_
  refine hK3 _ _ ?_
  refine CW.seq_k fun K4 hK4 => ?_
  refine CW.region ?_
  refine OW.q rfl rfl (yq_assign rfl (by (conv => lhs; whnf) <;> rfl)) ?_
  refine OW.nil ?_
  refine hK4 _ _ ?_
  refine CW.ret ?_
  -- ret (ret)
  exact fin1 (Or.inr rfl) rfl ⟨by decide, (by (conv => lhs; whnf) <;> rfl)⟩ (fun w hw => ⟨_, _, rfl, (hw.sub (L' := [.row a' cap' (k + 1) 5 1 (xs ++ [U8 x]), .blk b [selfP b, rowV a' (k + 1) cap'] 170 (0, 0)]) (.cons_cons _ (.cons _ (.refl _)))).perm (.swap _ _ _), rfl, a', cap', rfl⟩)
set_option maxRecDepth 100000 in
set_option maxHeartbeats 1000000 in
theorem bstr_calls (b g : Nat) (p : Value) (cap : Nat) (l : Bytes) {w0 w : World} {E : List Nat} {Lk : List Ent} (h0 : l ≠ [])
    (hc : Cl w0 E (.blk b [p, rowV (some g) l.length cap] 170 (0, 0) :: .row (some g) cap l.length 5 1 (bc l) :: Lk) w) :
    Calls Tryd.prog 123 #[selfP b] w fun e w' => e = .returned (.string (bs l)) ∧ Cl w [b, g] [.blk b [p, rowV (some g) l.length cap] 170 (0, 0)] w' := by
  have hcap0 : cap ≠ 0 := by
    have hown : w.ownsRow 0 5 1 (rowV (some g) l.length cap) l.length (bc l) := hc.own (.row (some g) cap l.length 5 1 (bc l)) (by simp)
    rcases hown.2 with ⟨hv, _⟩ | ⟨g', cap', cur, hv, _, _, hnc, _⟩
    · simp [rowV] at hv
    · simp only [rowV, Option.map_some, Value.slice.injEq, Option.some.injEq, Addr.mk.injEq, and_true, true_and] at hv
      obtain ⟨_, rfl⟩ := hv
      have := List.length_pos_iff.2 h0
      omega
  refine calls_of_CW (L := [.blk b [p, rowV (some g) l.length cap] 170 (0, 0), .row (some g) cap l.length 5 1 (bc l)]) Tryd.func123 rfl (Nat.le_of_ble_eq_true rfl) (Cl.lent2 hc) ?_
  refine CW.seq_k fun K1 hK1 => ?_
  refine CW.region ?_
  refine OW.q rfl rfl (yq_assign rfl (by (conv => lhs; whnf) <;> rfl)) ?_
  refine OW.nil ?_
  refine hK1 _ _ ?_
  refine CW.seq_k fun K2 hK2 => ?_
  refine CW.held ([.blk b [p, rowV (some g) l.length cap] 170 (0, 0)]) mixed ?_
  refine HW.take 0 rfl (by kernel_rfl) (by kernel_rfl) (by kernel_rfl) rfl rfl (by repeat' first | exact List.Sublist.refl _ | exact List.nil_sublist _ | apply List.Sublist.cons_cons | apply List.Sublist.cons) (yv_of_yq rfl (yq_move rfl (by (conv => lhs; whnf) <;> rfl))) ?_
  refine HW.take 1 rfl (by kernel_rfl) (by kernel_rfl) (by kernel_rfl) rfl rfl (by repeat' first | exact List.Sublist.refl _ | exact List.nil_sublist _ | apply List.Sublist.cons_cons | apply List.Sublist.cons) (yv_nilCheck rfl (by (conv => lhs; whnf) <;> rfl)) ?_
  refine HW.take 2 rfl (by kernel_rfl) (by kernel_rfl) (by kernel_rfl) rfl rfl (by repeat' first | exact List.Sublist.refl _ | exact List.nil_sublist _ | apply List.Sublist.cons_cons | apply List.Sublist.cons) (yv_of_yq rfl (yq_fieldAddr rfl (by (conv => lhs; whnf) <;> rfl) tf170_1 ti92)) ?_
  refine HW.take 3 rfl (by kernel_rfl) (by kernel_rfl) (by kernel_rfl) rfl rfl (by repeat' first | exact List.Sublist.refl _ | exact List.nil_sublist _ | apply List.Sublist.cons_cons | apply List.Sublist.cons) (yv_of_yq rfl ((yq_load1 rfl (by (conv => lhs; whnf) <;> rfl) ti92 (by repeat' first | exact List.mem_cons_self .. | apply List.mem_cons_of_mem) (by rfl)))) ?_
  refine HW.take 5 rfl (by kernel_rfl) (by kernel_rfl) (by kernel_rfl) rfl rfl (by repeat' first | exact List.Sublist.refl _ | exact List.nil_sublist _ | apply List.Sublist.cons_cons | apply List.Sublist.cons) (yv_of_yq rfl (yq_move rfl (by (conv => lhs; whnf) <;> rfl))) ?_
  refine HW.take 6 rfl (by kernel_rfl) (by kernel_rfl) (by kernel_rfl) rfl rfl (by repeat' first | exact List.Sublist.refl _ | exact List.nil_sublist _ | apply List.Sublist.cons_cons | apply List.Sublist.cons) (yv_nilCheck rfl (by (conv => lhs; whnf) <;> rfl)) ?_
  refine HW.take 7 rfl (by kernel_rfl) (by kernel_rfl) (by kernel_rfl) rfl rfl (by repeat' first | exact List.Sublist.refl _ | exact List.nil_sublist _ | apply List.Sublist.cons_cons | apply List.Sublist.cons) (yv_of_yq rfl (yq_fieldAddr rfl (by (conv => lhs; whnf) <;> rfl) tf170_1 ti92)) ?_
  refine HW.take 8 rfl (by kernel_rfl) (by kernel_rfl) (by kernel_rfl) rfl rfl (by repeat' first | exact List.Sublist.refl _ | exact List.nil_sublist _ | apply List.Sublist.cons_cons | apply List.Sublist.cons) (yv_of_yq rfl ((yq_load1 rfl (by (conv => lhs; whnf) <;> rfl) ti92 (by repeat' first | exact List.mem_cons_self .. | apply List.mem_cons_of_mem) (by rfl)))) ?_
  refine HW.take 9 rfl (by kernel_rfl) (by kernel_rfl) (by kernel_rfl) rfl rfl (by repeat' first | exact List.Sublist.refl _ | exact List.nil_sublist _ | apply List.Sublist.cons_cons | apply List.Sublist.cons) (yv_len_slice rfl ts92 (by (conv => lhs; whnf) <;> rfl)) ?_
  refine HW.one 4 (by kernel_rfl) rfl ?_
  refine OW.q rfl rfl (yq_sliceData rfl (by (conv => lhs; whnf) <;> rfl) hcap0) ?_
  refine OW.nil ⟨rfl, (by repeat' first | exact List.Sublist.refl _ | exact List.nil_sublist _ | apply List.Sublist.cons_cons | apply List.Sublist.cons), ?_⟩
  refine HW.one 10 (by kernel_rfl) rfl ?_
  refine OW.ustring rfl rfl rfl (by (conv => lhs; whnf) <;> rfl) (by (conv => lhs; whnf) <;> rfl) Tryd.underlying199 (by kernel_rfl) (by repeat' first | exact Del.head | apply Del.tail) h0 ?_
  refine OW.nil ⟨rfl, (by repeat' first | exact List.Sublist.refl _ | exact List.nil_sublist _ | apply List.Sublist.cons_cons | apply List.Sublist.cons), ?_⟩
  refine HW.take 11 rfl (by kernel_rfl) (by kernel_rfl) (by kernel_rfl) rfl rfl (by repeat' first | exact List.Sublist.refl _ | exact List.nil_sublist _ | apply List.Sublist.cons_cons | apply List.Sublist.cons) (yv_of_yq rfl (yq_assign rfl (by (conv => lhs; whnf) <;> rfl))) ?_
  refine HW.done (by kernel_rfl) ?_
  refine hK2 _ _ ?_
  refine CW.ret ?_
  -- ret (ret)
  exact fin1 (Or.inr rfl) rfl ⟨by decide, (by (conv => lhs; whnf) <;> rfl)⟩ (fun w hw => ⟨rfl, hw⟩)
end Go.Proofs.YtahdekllphehkaaDoor
namespace Go.Proofs.YtahdekllphehkaaDoor
open Go.WL Go.Spec
theorem m128 (x : UInt64) : (x % 128).toUInt8 = UInt8.ofNat (x.toNat % 128) := by
  apply UInt8.toNat_inj.1
  simp
theorem or128 (x : UInt64) : (x % 128).toUInt8 ||| 128 = UInt8.ofNat (x.toNat % 128 + 128) := by
  apply UInt8.toNat_inj.1
  rw [UInt8.toNat_or, m128, u8_nat (by omega), u8_nat (by omega)]
  have this : 128 + x.toNat % 128 = 128 ||| x.toNat % 128 := Nat.two_pow_add_eq_or_of_lt (i := 7) (b := x.toNat % 128) (by omega) 1
  rw [Nat.or_comm]
  show 128 ||| x.toNat % 128 = _
  omega
theorem add128 (x : UInt64) : (x % 128).toUInt8 + 128 = UInt8.ofNat (x.toNat % 128 + 128) := by
  apply UInt8.toNat_inj.1
  rw [UInt8.toNat_add, m128, u8_nat (by omega), u8_nat (by omega)]
  show (x.toNat % 128 + 128) % 256 = _
  omega
theorem d128 (x : UInt64) : (x / 128).toNat = x.toNat / 128 := by rw [UInt64.toNat_div]; rfl
theorem aheadB_le (x : UInt64) : (aheadB x.toNat).length ≤ 10 := (aheadB_length 9 x.toNat (by have := x.toNat_lt; have : (128 : Nat) ^ (9 + 1) = 1180591620717411303424 := by decide
                                                                                              omega)).2
theorem numB_le (x : UInt64) : (numB x.toNat).length ≤ 10 := (numB_length x.toNat_lt).2
set_option maxRecDepth 100000 in
set_option maxHeartbeats 1000000 in
theorem num_calls (x : UInt64) (w : World) : Calls Tryd.prog 105 #[U64 x] w fun e w' => e = .returned (.string (bs (numB x.toNat))) ∧ Cl w [] [] w' := by
  have hnl := numB_le x
  refine calls_of_CW (L := []) Tryd.func105 rfl (Nat.le_of_ble_eq_true rfl) (Cl.refl _) ?_
  refine CW.seq_k fun K1 hK1 => ?_
  refine CW.region ?_
  refine OW.q rfl rfl (yq_assign rfl (by (conv => lhs; whnf) <;> rfl)) ?_
  refine OW.nil ?_
  refine hK1 _ _ ?_
  refine CW.seq_k fun K2 hK2 => ?_
  refine CW.region ?_
  refine OW.q rfl rfl (yq_move rfl (by (conv => lhs; whnf) <;> rfl)) ?_
  refine OW.q rfl rfl (yq_rem_u64 (b := 128) rfl (by (conv => lhs; whnf) <;> rfl) (by (conv => lhs; whnf) <;> rfl) (by decide)) ?_
  refine OW.q rfl rfl (yq_conv_u64_u8 rfl Tryd.underlying147 Tryd.underlying5 (by (conv => lhs; whnf) <;> rfl)) ?_
  refine OW.slicelit (vs := [U8 (x % 128).toUInt8]) rfl rfl rfl rfl ts92 ti5 tz5 (by decide) rfl (by decide) (by simp [Value.cells]) (by decide) (cs := [U8 (x % 128).toUInt8]) rfl (fun bl => ?_)
  refine OW.toRow (k := 1) (size := 1) .head rfl (by decide) ?_
  refine OW.q rfl rfl (yq_assign rfl (by (conv => lhs; whnf) <;> rfl)) ?_
  refine OW.nil ?_
  refine hK2 _ _ ?_
  refine CW.seq_k fun K3 hK3 => ?_
  refine CW.seq_k fun K4 hK4 => ?_
  refine CW.region ?_
  refine OW.q rfl rfl (yq_move rfl (by (conv => lhs; whnf) <;> rfl)) ?_
  refine OW.q rfl rfl (yq_quo_u64 (b := 128) rfl (by (conv => lhs; whnf) <;> rfl) (by (conv => lhs; whnf) <;> rfl) (by decide)) ?_
  refine OW.q rfl rfl (yq_assign rfl (by (conv => lhs; whnf) <;> rfl)) ?_
  refine OW.nil ?_
  refine hK4 _ _ ?_
  refine CW.block ?_
  refine CW.loop (σ := UInt64 × Bytes) (fun q ρ L => match q with | (y, t) => ∃ a cap, Has ρ [(0, U64 y), (3, rowV a t.length cap)] ∧ L = [.row a cap t.length 5 1 (bc t)] ∧ 1 ≤ t.length ∧ numB x.toNat = (if y.toNat = 0 then t else aheadB y.toNat ++ t)) (fun q => q.1.toNat) ((x / 128, [(x % 128).toUInt8])) ?_ ?_
  · refine ⟨_, _, Has.mk ⟨(by (conv => lhs; whnf) <;> rfl), (by (conv => lhs; whnf) <;> rfl), trivial⟩, rfl, by simp, ?_⟩
    rw [d128, m128]
    by_cases hx : x.toNat < 128
    · rw [if_pos (by omega), numB_small hx, Nat.mod_eq_of_lt hx]
    · rw [if_neg (by omega), numB_more hx]
  · rintro ⟨y, t⟩ _ _ ⟨a, cap, ⟨ρ', rfl⟩, rfl, ht1, hnum⟩
    have ht10 : t.length ≤ 10 := by
      have := congrArg List.length hnum
      split at this
      · omega
      · rw [List.length_append] at this; omega
    refine CW.seq_k fun K5 hK5 => ?_
    refine CW.seq_k fun K6 hK6 => ?_
    refine CW.region ?_
    refine OW.q rfl rfl (yq_move rfl (by (conv => lhs; whnf) <;> rfl)) ?_
    refine OW.q rfl rfl (yq_gtr rfl (by (conv => lhs; whnf) <;> rfl) (by (conv => lhs; whnf) <;> rfl)) ?_
    refine OW.nil ?_
    refine hK6 _ _ ?_
    refine CW.cond_dec (by (conv => lhs; whnf) <;> rfl) (fun hc1 => ?_) (fun hc1 => ?_)
    · have hy0 : 0 < y.toNat := by omega
      refine CW.skip ?_
      refine hK5 _ _ ?_
      refine CW.seq_k fun K7 hK7 => ?_
      refine CW.block ?_
      refine CW.region ?_
      refine OW.q rfl rfl (yq_move rfl (by (conv => lhs; whnf) <;> rfl)) ?_
      refine OW.q rfl rfl (yq_rem_u64 (b := 128) rfl (by (conv => lhs; whnf) <;> rfl) (by (conv => lhs; whnf) <;> rfl) (by decide)) ?_
      refine OW.q rfl rfl (yq_conv_u64_u8 rfl Tryd.underlying147 Tryd.underlying5 (by (conv => lhs; whnf) <;> rfl)) ?_
      refine OW.q rfl rfl (yq_or_u8 (b := 128) rfl (by (conv => lhs; whnf) <;> rfl) (by (conv => lhs; whnf) <;> rfl)) ?_
      refine OW.slicelit (vs := [U8 ((y % 128).toUInt8 ||| 128)]) rfl rfl rfl rfl ts92 ti5 tz5 (by decide) rfl (by decide) (by simp [Value.cells]) (by decide) (cs := [U8 ((y % 128).toUInt8 ||| 128)]) rfl (fun bl => ?_)
      refine OW.toRow (k := 1) (size := 1) .head rfl (by decide) ?_
      refine OW.q rfl rfl (yq_move rfl (by (conv => lhs; whnf) <;> rfl)) ?_
      refine OW.appendRow (a := some bl) (cap := 1) (k := 1) rfl rfl rfl (by (conv => lhs; whnf) <;> rfl) (by (conv => lhs; whnf) <;> rfl) ts92 ti5 tz5 (by repeat' first | exact Del.head | apply Del.tail) (by repeat' first | exact List.mem_cons_self .. | apply List.mem_cons_of_mem) (bc_one t) rfl (by decide) (by simp only [maxLen]; omega) (by omega) (fun a' cap' => ?_)
      refine OW.drop (L' := [.row a' cap' (1 + t.length) 5 1 ([U8 ((y % 128).toUInt8 ||| 128)] ++ bc t)]) (by repeat' first | exact List.Sublist.refl _ | exact List.nil_sublist _ | apply List.Sublist.cons_cons | apply List.Sublist.cons) ?_
      rw [Nat.add_comm 1 t.length]
      refine OW.q rfl rfl (yq_assign rfl (by (conv => lhs; whnf) <;> rfl)) ?_
      refine OW.nil ?_
      refine hK7 _ _ ?_
      refine CW.region ?_
      refine OW.q rfl rfl (yq_move rfl (by (conv => lhs; whnf) <;> rfl)) ?_
      refine OW.q rfl rfl (yq_quo_u64 (b := 128) rfl (by (conv => lhs; whnf) <;> rfl) (by (conv => lhs; whnf) <;> rfl) (by decide)) ?_
      refine OW.q rfl rfl (yq_assign rfl (by (conv => lhs; whnf) <;> rfl)) ?_
      refine OW.nil ?_
      refine ⟨(y / 128, ((y % 128).toUInt8 ||| 128) :: t), ⟨a', cap', Has.mk ⟨(by (conv => lhs; whnf) <;> rfl), (by (conv => lhs; whnf) <;> rfl), trivial⟩, rfl, by simp, ?_⟩, by show (y / 128).toNat < y.toNat; rw [d128]; omega⟩
      rw [hnum, if_neg (by omega), d128, or128]
      by_cases hy : y.toNat < 128
      · rw [if_pos (by omega), aheadB_small hy, Nat.mod_eq_of_lt hy]; rfl
      · rw [if_neg (by omega), aheadB_more hy]; simp
    · have hy0 : y.toNat = 0 := by omega
      rw [if_pos hy0] at hnum
      refine CW.exit ?_
      refine then_exit ?_
      refine then_exit ?_
      refine blockQ_hit ?_
      refine hK3 _ _ ?_
      refine CW.seq_k fun K8 hK8 => ?_
      refine CW.region ?_
      refine OW.q rfl rfl (yq_move rfl (by (conv => lhs; whnf) <;> rfl)) ?_
      refine OW.know _ (know_row (List.mem_cons_self ..) ht1) ?_
      rintro ⟨g, rfl⟩
      refine OW.q rfl rfl (yq_conv_bytes (l := t) rfl ts92 Tryd.underlying5 tt9 (by (conv => lhs; whnf) <;> rfl) rfl (row_cells (List.mem_cons_self ..))) ?_
      refine OW.q rfl rfl (yq_assign rfl (by (conv => lhs; whnf) <;> rfl)) ?_
      refine OW.nil ?_
      refine hK8 _ _ ?_
      refine CW.ret ?_
      -- ret (ret)
      rw [hnum]
      exact fin1 (Or.inr rfl) rfl ⟨by decide, (by (conv => lhs; whnf) <;> rfl)⟩ (fun w hw => ⟨rfl, hw.sub (List.nil_sublist _)⟩)
def AheadP (m : Nat) : Prop := ∀ (x : UInt64) (w : World), x.toNat < m → Calls Tryd.prog 155 #[U64 x] w fun e w' => e = .returned (.string (bs (aheadB x.toNat))) ∧ Cl w [] [] w'
set_option maxRecDepth 100000 in
set_option maxHeartbeats 1000000 in
theorem ahead_step (m : Nat) (ih : AheadP m) : AheadP (m + 1) := by
  intro x w hm
  have hal := aheadB_le (x / 128)
  refine calls_of_CW (L := []) Tryd.func155 rfl (Nat.le_of_ble_eq_true rfl) (Cl.refl _) ?_
  refine CW.seq_k fun K1 hK1 => ?_
  refine CW.region ?_
  refine OW.q rfl rfl (yq_assign rfl (by (conv => lhs; whnf) <;> rfl)) ?_
  refine OW.nil ?_
  refine hK1 _ _ ?_
  refine CW.seq_k fun K2 hK2 => ?_
  refine CW.region ?_
  refine OW.q rfl rfl (yq_move rfl (by (conv => lhs; whnf) <;> rfl)) ?_
  refine OW.q rfl rfl (yq_rem_u64 (b := 128) rfl (by (conv => lhs; whnf) <;> rfl) (by (conv => lhs; whnf) <;> rfl) (by decide)) ?_
  refine OW.q rfl rfl (yq_conv_u64_u8 rfl Tryd.underlying147 Tryd.underlying5 (by (conv => lhs; whnf) <;> rfl)) ?_
  refine OW.q rfl rfl (yq_add_u8 (b := 128) rfl (by (conv => lhs; whnf) <;> rfl) (by (conv => lhs; whnf) <;> rfl)) ?_
  refine OW.slicelit (vs := [U8 ((x % 128).toUInt8 + 128)]) rfl rfl rfl rfl ts92 ti5 tz5 (by decide) rfl (by decide) (by simp [Value.cells]) (by decide) (cs := [U8 ((x % 128).toUInt8 + 128)]) rfl (fun bl => ?_)
  refine OW.q rfl rfl (yq_conv_bytes (l := [(x % 128).toUInt8 + 128]) rfl ts92 Tryd.underlying5 tt9 (by (conv => lhs; whnf) <;> rfl) rfl (blk_cells (cs := bc ([(x % 128).toUInt8 + 128])) (by repeat' first | exact List.mem_cons_self .. | apply List.mem_cons_of_mem))) ?_
  refine OW.q rfl rfl (yq_assign rfl (by (conv => lhs; whnf) <;> rfl)) ?_
  refine OW.nil ?_
  refine hK2 _ _ ?_
  refine CW.seq_k fun K3 hK3 => ?_
  refine CW.seq_k fun K4 hK4 => ?_
  refine CW.region ?_
  refine OW.q rfl rfl (yq_move rfl (by (conv => lhs; whnf) <;> rfl)) ?_
  refine OW.q rfl rfl (yq_lss rfl (by (conv => lhs; whnf) <;> rfl) (by (conv => lhs; whnf) <;> rfl)) ?_
  refine OW.nil ?_
  refine hK4 _ _ ?_
  refine CW.cond_dec (by (conv => lhs; whnf) <;> rfl) (fun hc0 => ?_) (fun hc0 => ?_)
  · refine CW.seq_k fun K5 hK5 => ?_
    refine CW.region ?_
    refine OW.q rfl rfl (yq_move rfl (by (conv => lhs; whnf) <;> rfl)) ?_
    refine OW.q rfl rfl (yq_assign rfl (by (conv => lhs; whnf) <;> rfl)) ?_
    refine OW.nil ?_
    refine hK5 _ _ ?_
    refine CW.ret ?_
    refine then_ret ?_
    -- ret (ret)
    rw [aheadB_small (by omega)]
    rw [add128, Nat.mod_eq_of_lt (by omega)]
    exact fin1 (Or.inr rfl) rfl ⟨by decide, (by (conv => lhs; whnf) <;> rfl)⟩ (fun w hw => ⟨rfl, hw.sub (List.nil_sublist _)⟩)
  · refine CW.skip ?_
    refine hK3 _ _ ?_
    refine CW.seq_k fun K6 hK6 => ?_
    refine CW.region ?_
    refine OW.q rfl rfl (yq_move rfl (by (conv => lhs; whnf) <;> rfl)) ?_
    refine OW.q rfl rfl (yq_quo_u64 (b := 128) rfl (by (conv => lhs; whnf) <;> rfl) (by (conv => lhs; whnf) <;> rfl) (by decide)) ?_
    refine OW.q rfl rfl (yq_call rfl rfl (.cons (by (conv => lhs; whnf) <;> rfl) .nil) en155 (fun w hw => ih (x / 128) w (by rw [d128]; omega))) ?_
    refine OW.q rfl rfl (yq_move rfl (by (conv => lhs; whnf) <;> rfl)) ?_
    refine OW.q rfl rfl (yq_add_bs rfl (by (conv => lhs; whnf) <;> rfl) (by (conv => lhs; whnf) <;> rfl) (by simp only [List.length_singleton]; omega)) ?_
    refine OW.q rfl rfl (yq_assign rfl (by (conv => lhs; whnf) <;> rfl)) ?_
    refine OW.nil ?_
    refine hK6 _ _ ?_
    refine CW.ret ?_
    -- ret (ret)
    rw [aheadB_more (by omega)]
    rw [add128, d128]
    exact fin1 (Or.inr rfl) rfl ⟨by decide, (by (conv => lhs; whnf) <;> rfl)⟩ (fun w hw => ⟨rfl, hw.sub (List.nil_sublist _)⟩)
theorem ahead_calls (x : UInt64) (w : World) : Calls Tryd.prog 155 #[U64 x] w fun e w' => e = .returned (.string (bs (aheadB x.toNat))) ∧ Cl w [] [] w' := by
  have : ∀ m, AheadP m := by
    intro m
    induction m with
    | zero => intro x w h; omega
    | succ m ih => exact ahead_step m ih
  exact this (x.toNat + 1) x w (by omega)
set_option maxRecDepth 100000 in
set_option maxHeartbeats 1000000 in
theorem refnum_calls (x : UInt64) (w : World) : Calls Tryd.prog 131 #[U64 x] w fun e w' => e = .returned (.string (bs (numB x.toNat))) ∧ Cl w [] [] w' := by
  have hal := aheadB_le (x / 128)
  refine calls_of_CW (L := []) Tryd.func131 rfl (Nat.le_of_ble_eq_true rfl) (Cl.refl _) ?_
  refine CW.seq_k fun K1 hK1 => ?_
  refine CW.region ?_
  refine OW.q rfl rfl (yq_assign rfl (by (conv => lhs; whnf) <;> rfl)) ?_
  refine OW.nil ?_
  refine hK1 _ _ ?_
  refine CW.seq_k fun K2 hK2 => ?_
  refine CW.seq_k fun K3 hK3 => ?_
  refine CW.region ?_
  refine OW.q rfl rfl (yq_move rfl (by (conv => lhs; whnf) <;> rfl)) ?_
  refine OW.q rfl rfl (yq_lss rfl (by (conv => lhs; whnf) <;> rfl) (by (conv => lhs; whnf) <;> rfl)) ?_
  refine OW.nil ?_
  refine hK3 _ _ ?_
  refine CW.cond_dec (by (conv => lhs; whnf) <;> rfl) (fun hc0 => ?_) (fun hc0 => ?_)
  · refine CW.seq_k fun K4 hK4 => ?_
    refine CW.region ?_
    refine OW.q rfl rfl (yq_move rfl (by (conv => lhs; whnf) <;> rfl)) ?_
    refine OW.q rfl rfl (yq_conv_u64_u8 rfl Tryd.underlying147 Tryd.underlying5 (by (conv => lhs; whnf) <;> rfl)) ?_
    refine OW.slicelit (vs := [U8 x.toUInt8]) rfl rfl rfl rfl ts92 ti5 tz5 (by decide) rfl (by decide) (by simp [Value.cells]) (by decide) (cs := [U8 x.toUInt8]) rfl (fun bl => ?_)
    refine OW.q rfl rfl (yq_conv_bytes (l := [x.toUInt8]) rfl ts92 Tryd.underlying5 tt9 (by (conv => lhs; whnf) <;> rfl) rfl (blk_cells (cs := bc ([x.toUInt8])) (by repeat' first | exact List.mem_cons_self .. | apply List.mem_cons_of_mem))) ?_
    refine OW.q rfl rfl (yq_assign rfl (by (conv => lhs; whnf) <;> rfl)) ?_
    refine OW.nil ?_
    refine hK4 _ _ ?_
    refine CW.ret ?_
    refine then_ret ?_
    -- ret (ret)
    rw [numB_small (by omega), show UInt8.ofNat x.toNat = x.toUInt8 from rfl]
    exact fin1 (Or.inr rfl) rfl ⟨by decide, (by (conv => lhs; whnf) <;> rfl)⟩ (fun w hw => ⟨rfl, hw.sub (List.nil_sublist _)⟩)
  · refine CW.skip ?_
    refine hK2 _ _ ?_
    refine CW.cutR (fun ρ L => Has ρ [(2, .string (bs (aheadB (x / 128).toNat ++ [(x % 128).toUInt8])))]) ?_ ?_
    · refine CW.held ([]) mixed ?_
      refine HW.take 0 rfl (by kernel_rfl) (by kernel_rfl) (by kernel_rfl) rfl rfl (by repeat' first | exact List.Sublist.refl _ | exact List.nil_sublist _ | apply List.Sublist.cons_cons | apply List.Sublist.cons) (yv_of_yq rfl (yq_move rfl (by (conv => lhs; whnf) <;> rfl))) ?_
      refine HW.take 1 rfl (by kernel_rfl) (by kernel_rfl) (by kernel_rfl) rfl rfl (by repeat' first | exact List.Sublist.refl _ | exact List.nil_sublist _ | apply List.Sublist.cons_cons | apply List.Sublist.cons) (yv_of_yq rfl (yq_quo_u64 (b := 128) rfl (by (conv => lhs; whnf) <;> rfl) (by (conv => lhs; whnf) <;> rfl) (by decide))) ?_
      refine HW.take 3 rfl (by kernel_rfl) (by kernel_rfl) (by kernel_rfl) rfl rfl (by repeat' first | exact List.Sublist.refl _ | exact List.nil_sublist _ | apply List.Sublist.cons_cons | apply List.Sublist.cons) (yv_of_yq rfl (yq_move rfl (by (conv => lhs; whnf) <;> rfl))) ?_
      refine HW.take 4 rfl (by kernel_rfl) (by kernel_rfl) (by kernel_rfl) rfl rfl (by repeat' first | exact List.Sublist.refl _ | exact List.nil_sublist _ | apply List.Sublist.cons_cons | apply List.Sublist.cons) (yv_of_yq rfl (yq_rem_u64 (b := 128) rfl (by (conv => lhs; whnf) <;> rfl) (by (conv => lhs; whnf) <;> rfl) (by decide))) ?_
      refine HW.take 5 rfl (by kernel_rfl) (by kernel_rfl) (by kernel_rfl) rfl rfl (by repeat' first | exact List.Sublist.refl _ | exact List.nil_sublist _ | apply List.Sublist.cons_cons | apply List.Sublist.cons) (yv_of_yq rfl (yq_conv_u64_u8 rfl Tryd.underlying147 Tryd.underlying5 (by (conv => lhs; whnf) <;> rfl))) ?_
      refine HW.two 2 6 (by kernel_rfl) rfl rfl ?_ ?_
      · refine OW.q rfl rfl (yq_call rfl rfl (.cons (by (conv => lhs; whnf) <;> rfl) .nil) en155 (fun w hw => ahead_calls (x / 128) w)) ?_
        refine OW.nil ⟨rfl, (by repeat' first | exact List.Sublist.refl _ | exact List.nil_sublist _ | apply List.Sublist.cons_cons | apply List.Sublist.cons), ?_⟩
        refine HW.one 6 (by kernel_rfl) rfl ?_
        refine OW.slicelit (vs := [U8 (x % 128).toUInt8]) rfl rfl rfl rfl ts92 ti5 tz5 (by decide) rfl (by decide) (by simp [Value.cells]) (by decide) (cs := [U8 (x % 128).toUInt8]) rfl (fun bl => ?_)
        refine OW.nil ⟨rfl, (by repeat' first | exact List.Sublist.refl _ | exact List.nil_sublist _ | apply List.Sublist.cons_cons | apply List.Sublist.cons), ?_⟩
        refine HW.one 7 (by kernel_rfl) rfl ?_
        refine OW.q rfl rfl (yq_conv_bytes (l := [(x % 128).toUInt8]) rfl ts92 Tryd.underlying5 tt9 (by (conv => lhs; whnf) <;> rfl) rfl (blk_cells (cs := bc ([(x % 128).toUInt8])) (by repeat' first | exact List.mem_cons_self .. | apply List.mem_cons_of_mem))) ?_
        refine OW.nil ⟨rfl, (by repeat' first | exact List.Sublist.refl _ | exact List.nil_sublist _ | apply List.Sublist.cons_cons | apply List.Sublist.cons), ?_⟩
        refine HW.take 8 rfl (by kernel_rfl) (by kernel_rfl) (by kernel_rfl) rfl rfl (by repeat' first | exact List.Sublist.refl _ | exact List.nil_sublist _ | apply List.Sublist.cons_cons | apply List.Sublist.cons) (yv_of_yq rfl (yq_add_bs rfl (by (conv => lhs; whnf) <;> rfl) (by (conv => lhs; whnf) <;> rfl) (by simp only [List.length_singleton]; omega))) ?_
        refine HW.take 9 rfl (by kernel_rfl) (by kernel_rfl) (by kernel_rfl) rfl rfl (by repeat' first | exact List.Sublist.refl _ | exact List.nil_sublist _ | apply List.Sublist.cons_cons | apply List.Sublist.cons) (yv_of_yq rfl (yq_assign rfl (by (conv => lhs; whnf) <;> rfl))) ?_
        refine HW.done (by kernel_rfl) ?_
        exact ⟨rfl, Has.mk ⟨(by (conv => lhs; whnf) <;> rfl), trivial⟩⟩
      · refine OW.slicelit (vs := [U8 (x % 128).toUInt8]) rfl rfl rfl rfl ts92 ti5 tz5 (by decide) rfl (by decide) (by simp [Value.cells]) (by decide) (cs := [U8 (x % 128).toUInt8]) rfl (fun bl => ?_)
        refine OW.nil ⟨rfl, (by repeat' first | exact List.Sublist.refl _ | exact List.nil_sublist _ | apply List.Sublist.cons_cons | apply List.Sublist.cons), ?_⟩
        refine HW.two 2 7 (by kernel_rfl) rfl rfl ?_ ?_
        · refine OW.q rfl rfl (yq_call rfl rfl (.cons (by (conv => lhs; whnf) <;> rfl) .nil) en155 (fun w hw => ahead_calls (x / 128) w)) ?_
          refine OW.nil ⟨rfl, (by repeat' first | exact List.Sublist.refl _ | exact List.nil_sublist _ | apply List.Sublist.cons_cons | apply List.Sublist.cons), ?_⟩
          refine HW.one 7 (by kernel_rfl) rfl ?_
          refine OW.q rfl rfl (yq_conv_bytes (l := [(x % 128).toUInt8]) rfl ts92 Tryd.underlying5 tt9 (by (conv => lhs; whnf) <;> rfl) rfl (blk_cells (cs := bc ([(x % 128).toUInt8])) (by repeat' first | exact List.mem_cons_self .. | apply List.mem_cons_of_mem))) ?_
          refine OW.nil ⟨rfl, (by repeat' first | exact List.Sublist.refl _ | exact List.nil_sublist _ | apply List.Sublist.cons_cons | apply List.Sublist.cons), ?_⟩
          refine HW.take 8 rfl (by kernel_rfl) (by kernel_rfl) (by kernel_rfl) rfl rfl (by repeat' first | exact List.Sublist.refl _ | exact List.nil_sublist _ | apply List.Sublist.cons_cons | apply List.Sublist.cons) (yv_of_yq rfl (yq_add_bs rfl (by (conv => lhs; whnf) <;> rfl) (by (conv => lhs; whnf) <;> rfl) (by simp only [List.length_singleton]; omega))) ?_
          refine HW.take 9 rfl (by kernel_rfl) (by kernel_rfl) (by kernel_rfl) rfl rfl (by repeat' first | exact List.Sublist.refl _ | exact List.nil_sublist _ | apply List.Sublist.cons_cons | apply List.Sublist.cons) (yv_of_yq rfl (yq_assign rfl (by (conv => lhs; whnf) <;> rfl))) ?_
          refine HW.done (by kernel_rfl) ?_
          exact ⟨rfl, Has.mk ⟨(by (conv => lhs; whnf) <;> rfl), trivial⟩⟩
        · refine OW.q rfl rfl (yq_conv_bytes (l := [(x % 128).toUInt8]) rfl ts92 Tryd.underlying5 tt9 (by (conv => lhs; whnf) <;> rfl) rfl (blk_cells (cs := bc ([(x % 128).toUInt8])) (by repeat' first | exact List.mem_cons_self .. | apply List.mem_cons_of_mem))) ?_
          refine OW.nil ⟨rfl, (by repeat' first | exact List.Sublist.refl _ | exact List.nil_sublist _ | apply List.Sublist.cons_cons | apply List.Sublist.cons), ?_⟩
          refine HW.one 2 (by kernel_rfl) rfl ?_
          refine OW.q rfl rfl (yq_call rfl rfl (.cons (by (conv => lhs; whnf) <;> rfl) .nil) en155 (fun w hw => ahead_calls (x / 128) w)) ?_
          refine OW.nil ⟨rfl, (by repeat' first | exact List.Sublist.refl _ | exact List.nil_sublist _ | apply List.Sublist.cons_cons | apply List.Sublist.cons), ?_⟩
          refine HW.take 8 rfl (by kernel_rfl) (by kernel_rfl) (by kernel_rfl) rfl rfl (by repeat' first | exact List.Sublist.refl _ | exact List.nil_sublist _ | apply List.Sublist.cons_cons | apply List.Sublist.cons) (yv_of_yq rfl (yq_add_bs rfl (by (conv => lhs; whnf) <;> rfl) (by (conv => lhs; whnf) <;> rfl) (by simp only [List.length_singleton]; omega))) ?_
          refine HW.take 9 rfl (by kernel_rfl) (by kernel_rfl) (by kernel_rfl) rfl rfl (by repeat' first | exact List.Sublist.refl _ | exact List.nil_sublist _ | apply List.Sublist.cons_cons | apply List.Sublist.cons) (yv_of_yq rfl (yq_assign rfl (by (conv => lhs; whnf) <;> rfl))) ?_
          refine HW.done (by kernel_rfl) ?_
          exact ⟨rfl, Has.mk ⟨(by (conv => lhs; whnf) <;> rfl), trivial⟩⟩
    · rintro _ _ ⟨ρ', rfl⟩
      refine CW.ret ?_
      -- ret (ret)
      rw [numB_more (by omega), ← m128, ← d128]
      exact fin1 (Or.inr rfl) rfl ⟨by decide, (by (conv => lhs; whnf) <;> rfl)⟩ (fun w hw => ⟨rfl, hw.sub (List.nil_sublist _)⟩)
theorem textB_eq (s : Bytes) : textB s = numB s.length ++ s := by unfold textB; rfl
theorem u64_len {k : Nat} (h : k ≤ 4294967296) : (UInt64.ofNat k).toNat = k := by rw [UInt64.toNat_ofNat']; omega
set_option maxRecDepth 100000 in
set_option maxHeartbeats 1000000 in
theorem text_calls (s : Bytes) (w : World) (hs : s.length ≤ 4294967296) : Calls Tryd.prog 106 #[.string (bs s)] w fun e w' => e = .returned (.string (bs (textB s))) ∧ Cl w [] [] w' := by
  have hl := u64_len hs
  have hnl := numB_le (UInt64.ofNat s.length)
  refine calls_of_CW (L := []) Tryd.func106 rfl (Nat.le_of_ble_eq_true rfl) (Cl.refl _) ?_
  refine CW.seq_k fun K1 hK1 => ?_
  refine CW.region ?_
  refine OW.q rfl rfl (yq_assign rfl (by (conv => lhs; whnf) <;> rfl)) ?_
  refine OW.nil ?_
  refine hK1 _ _ ?_
  refine CW.seq_k fun K2 hK2 => ?_
  refine CW.region ?_
  refine OW.q rfl rfl (yq_move rfl (by (conv => lhs; whnf) <;> rfl)) ?_
  refine OW.q rfl rfl (yq_len_bs rfl tt9 (by (conv => lhs; whnf) <;> rfl)) ?_
  refine OW.q rfl rfl ((yq_conv_i64_u64 rfl Tryd.underlying3 Tryd.underlying147 (by (conv => lhs; whnf) <;> rfl) (by omega))) ?_
  refine OW.q rfl rfl (yq_call rfl rfl (.cons (by (conv => lhs; whnf) <;> rfl) .nil) en105 (fun w hw => num_calls (UInt64.ofNat s.length) w)) ?_
  refine OW.q rfl rfl (yq_move rfl (by (conv => lhs; whnf) <;> rfl)) ?_
  refine OW.q rfl rfl (yq_add_bs rfl (by (conv => lhs; whnf) <;> rfl) (by (conv => lhs; whnf) <;> rfl) (by omega)) ?_
  refine OW.q rfl rfl (yq_assign rfl (by (conv => lhs; whnf) <;> rfl)) ?_
  refine OW.nil ?_
  refine hK2 _ _ ?_
  refine CW.ret ?_
  -- ret (ret)
  have e : numB (UInt64.ofNat s.length).toNat = numB s.length := by rw [hl]
  rw [textB_eq]
  exact fin1 (Or.inr rfl) rfl ⟨by decide, (by (conv => lhs; whnf) <;> rfl)⟩ (fun w hw => ⟨congrArg (fun t => Ending.returned (.string (bs (t ++ s)))) e, hw⟩)
set_option maxRecDepth 100000 in
set_option maxHeartbeats 1000000 in
theorem reftext_calls (s : Bytes) (w : World) (hs : s.length ≤ 4294967296) : Calls Tryd.prog 126 #[.string (bs s)] w fun e w' => e = .returned (.string (bs (textB s))) ∧ Cl w [] [] w' := by
  have hl := u64_len hs
  have hnl := numB_le (UInt64.ofNat s.length)
  refine calls_of_CW (L := []) Tryd.func126 rfl (Nat.le_of_ble_eq_true rfl) (Cl.refl _) ?_
  refine CW.seq_k fun K1 hK1 => ?_
  refine CW.region ?_
  refine OW.q rfl rfl (yq_assign rfl (by (conv => lhs; whnf) <;> rfl)) ?_
  refine OW.nil ?_
  refine hK1 _ _ ?_
  refine CW.seq_k fun K2 hK2 => ?_
  refine CW.region ?_
  refine OW.q rfl rfl (yq_move rfl (by (conv => lhs; whnf) <;> rfl)) ?_
  refine OW.q rfl rfl (yq_len_bs rfl tt9 (by (conv => lhs; whnf) <;> rfl)) ?_
  refine OW.q rfl rfl ((yq_conv_i64_u64 rfl Tryd.underlying3 Tryd.underlying147 (by (conv => lhs; whnf) <;> rfl) (by omega))) ?_
  refine OW.q rfl rfl (yq_call rfl rfl (.cons (by (conv => lhs; whnf) <;> rfl) .nil) en131 (fun w hw => refnum_calls (UInt64.ofNat s.length) w)) ?_
  refine OW.q rfl rfl (yq_move rfl (by (conv => lhs; whnf) <;> rfl)) ?_
  refine OW.q rfl rfl (yq_add_bs rfl (by (conv => lhs; whnf) <;> rfl) (by (conv => lhs; whnf) <;> rfl) (by omega)) ?_
  refine OW.q rfl rfl (yq_assign rfl (by (conv => lhs; whnf) <;> rfl)) ?_
  refine OW.nil ?_
  refine hK2 _ _ ?_
  refine CW.ret ?_
  -- ret (ret)
  have e : numB (UInt64.ofNat s.length).toNat = numB s.length := by rw [hl]
  rw [textB_eq]
  exact fin1 (Or.inr rfl) rfl ⟨by decide, (by (conv => lhs; whnf) <;> rfl)⟩ (fun w hw => ⟨congrArg (fun t => Ending.returned (.string (bs (t ++ s)))) e, hw⟩)
theorem shr8_eq (n : UInt64) (i : Nat) : shr8 n i / 256 = shr8 n (i + 1) := by
  show _ = shr8 n i >>> 8
  apply UInt64.toNat_inj.1
  rw [UInt64.toNat_div, UInt64.toNat_shiftRight]
  show _ / 256 = _ >>> 8
  rw [Nat.shiftRight_eq_div_pow]
theorem mod256 (x : UInt64) : (x % 256).toUInt8 = x.toUInt8 := by
  apply UInt8.toNat_inj.1
  simp
set_option maxRecDepth 100000 in
set_option maxHeartbeats 1000000 in
theorem refput_calls (n : UInt64) (k : Nat) (w : World) (hk : k ≤ 8) : Calls Tryd.prog 127 #[U64 n, .int .i64 (k : Int)] w fun e w' => e = .returned (.string (bs (putB n k))) ∧ Cl w [] [] w' := by
  refine calls_of_CW (L := []) Tryd.func127 rfl (Nat.le_of_ble_eq_true rfl) (Cl.refl _) ?_
  refine CW.seq_k fun K1 hK1 => ?_
  refine CW.region ?_
  refine OW.q rfl rfl (yq_assign rfl (by (conv => lhs; whnf) <;> rfl)) ?_
  refine OW.nil ?_
  refine hK1 _ _ ?_
  refine CW.seq_k fun K2 hK2 => ?_
  refine CW.region ?_
  refine OW.q rfl rfl (yq_assign rfl (by (conv => lhs; whnf) <;> rfl)) ?_
  refine OW.nil ?_
  refine hK2 _ _ ?_
  refine CW.seq_k fun K3 hK3 => ?_
  refine CW.seq_k fun K4 hK4 => ?_
  refine CW.region ?_
  refine OW.q rfl rfl (yq_assign rfl (by (conv => lhs; whnf) <;> rfl)) ?_
  refine OW.nil ?_
  refine hK4 _ _ ?_
  refine CW.block ?_
  refine CW.loop (σ := Nat) (fun i ρ L => Has ρ [(0, U64 (shr8 n i)), (1, .int .i64 (k : Int)), (5, .string (bs (putT n i))), (6, .int .i64 (i : Int))] ∧ i ≤ k ∧ L = []) (fun i => k - i) (0) ?_ ?_
  · exact ⟨Has.mk ⟨(by (conv => lhs; whnf) <;> rfl), (by (conv => lhs; whnf) <;> rfl), (by (conv => lhs; whnf) <;> rfl), (by (conv => lhs; whnf) <;> rfl), trivial⟩, Nat.zero_le _, rfl⟩
  · rintro i _ _ ⟨⟨ρ', rfl⟩, hi, rfl⟩
    have hpt := putT_length n i
    refine CW.seq_k fun K5 hK5 => ?_
    refine CW.seq_k fun K6 hK6 => ?_
    refine CW.region ?_
    refine OW.q rfl rfl (yq_move rfl (by (conv => lhs; whnf) <;> rfl)) ?_
    refine OW.q rfl rfl (yq_move rfl (by (conv => lhs; whnf) <;> rfl)) ?_
    refine OW.qb rfl rfl (yq_lss rfl (by (conv => lhs; whnf) <;> rfl) (by (conv => lhs; whnf) <;> rfl)) (fun b9 hb9 => ?_)
    refine OW.q rfl rfl (yq_move rfl (by (conv => lhs; whnf) <;> rfl)) ?_
    apply OW.segAnd 3 [11, 12] 13 hb9
    · intro hb9e
      refine QW.q (by subst hb9e; rfl) rfl (yq_move rfl (by (conv => lhs; whnf) <;> rfl)) ?_
      refine QW.qb (by subst hb9e; rfl) rfl (yq_lss rfl (by (conv => lhs; whnf) <;> rfl) (by (conv => lhs; whnf) <;> rfl)) (fun b12 hb12 => ?_)
      refine QW.q rfl rfl (yq_pick rfl (by (conv => lhs; whnf) <;> rfl) (by subst hb9e; ((conv => lhs; whnf) <;> rfl))) ?_
      exact QW.nil (SegM.mk (any_c (any_c any_n)) (and_run hb9 hb9e hb12))
    · intro hb9e
      refine QW.skip (by subst hb9e; rfl) rfl ?_
      refine QW.skip (by subst hb9e; rfl) rfl ?_
      refine QW.q rfl rfl (yq_pick rfl (by (conv => lhs; whnf) <;> rfl) (by subst hb9e; ((conv => lhs; whnf) <;> rfl))) ?_
      exact QW.nil (SegM.mk (any_c (any_c any_n)) (and_skip hb9 hb9e))
    · intro ρ13 b13 hA hb13
      obtain ⟨x11, x12, rfl⟩ := hA
      refine OW.nil ?_
      refine hK6 _ _ ?_
      refine CW.condq (by (conv => lhs; whnf) <;> rfl) hb13 (fun hc1 => ?_) (fun hc1 => ?_)
      · refine CW.skip ?_
        refine hK5 _ _ ?_
        refine CW.seq_k fun K7 hK7 => ?_
        refine CW.block ?_
        refine CW.seq_k fun K8 hK8 => ?_
        refine CW.region ?_
        refine OW.q rfl rfl (yq_move rfl (by (conv => lhs; whnf) <;> rfl)) ?_
        refine OW.q rfl rfl (yq_rem_u64 (b := 256) rfl (by (conv => lhs; whnf) <;> rfl) (by (conv => lhs; whnf) <;> rfl) (by decide)) ?_
        refine OW.q rfl rfl ((yq_conv_u64_u8 rfl Tryd.underlying147 Tryd.underlying5 (by (conv => lhs; whnf) <;> rfl)).to (v' := U8 (shr8 n i).toUInt8) (by rw [mod256])) ?_
        refine OW.slicelit (vs := [U8 (shr8 n i).toUInt8]) rfl rfl rfl rfl ts92 ti5 tz5 (by decide) rfl (by decide) (by simp [Value.cells]) (by decide) (cs := [U8 (shr8 n i).toUInt8]) rfl (fun bl => ?_)
        refine OW.q rfl rfl (yq_conv_bytes (l := [(shr8 n i).toUInt8]) rfl ts92 Tryd.underlying5 tt9 (by (conv => lhs; whnf) <;> rfl) rfl (blk_cells (cs := bc ([(shr8 n i).toUInt8])) (by repeat' first | exact List.mem_cons_self .. | apply List.mem_cons_of_mem))) ?_
        refine OW.q rfl rfl (yq_move rfl (by (conv => lhs; whnf) <;> rfl)) ?_
        refine OW.q rfl rfl (yq_add_bs rfl (by (conv => lhs; whnf) <;> rfl) (by (conv => lhs; whnf) <;> rfl) (by simp only [List.length_singleton]; omega)) ?_
        refine OW.drop (List.nil_sublist _) ?_
        refine OW.q rfl rfl (yq_assign rfl (by (conv => lhs; whnf) <;> rfl)) ?_
        refine OW.nil ?_
        refine hK8 _ _ ?_
        refine CW.region ?_
        refine OW.q rfl rfl (yq_move rfl (by (conv => lhs; whnf) <;> rfl)) ?_
        refine OW.q rfl rfl (yq_quo_u64 (b := 256) rfl (by (conv => lhs; whnf) <;> rfl) (by (conv => lhs; whnf) <;> rfl) (by decide)) ?_
        refine OW.q rfl rfl (yq_assign rfl (by (conv => lhs; whnf) <;> rfl)) ?_
        refine OW.nil ?_
        refine hK7 _ _ ?_
        refine CW.region ?_
        refine OW.q rfl rfl (yq_move rfl (by (conv => lhs; whnf) <;> rfl)) ?_
        refine OW.q rfl rfl (yq_add rfl (by (conv => lhs; whnf) <;> rfl) (by (conv => lhs; whnf) <;> rfl) (by omega)) ?_
        refine OW.q rfl rfl (yq_assign rfl (by (conv => lhs; whnf) <;> rfl)) ?_
        refine OW.nil ?_
        exact ⟨i + 1, ⟨Has.mk ⟨by rw [← shr8_eq]; exact (by (conv => lhs; whnf) <;> rfl), (by (conv => lhs; whnf) <;> rfl), (by (conv => lhs; whnf) <;> rfl), (by (conv => lhs; whnf) <;> rfl), trivial⟩, by omega, rfl⟩, by omega⟩
      · have hik : i = k := by omega
        subst hik
        refine CW.exit ?_
        refine then_exit ?_
        refine then_exit ?_
        refine blockQ_hit ?_
        refine hK3 _ _ ?_
        refine CW.seq_k fun K9 hK9 => ?_
        refine CW.region ?_
        refine OW.q rfl rfl (yq_move rfl (by (conv => lhs; whnf) <;> rfl)) ?_
        refine OW.q rfl rfl (yq_assign rfl (by (conv => lhs; whnf) <;> rfl)) ?_
        refine OW.nil ?_
        refine hK9 _ _ ?_
        refine CW.ret ?_
        -- ret (ret)
        rw [← putT_eq]
        exact fin1 (Or.inr rfl) rfl ⟨by decide, (by (conv => lhs; whnf) <;> rfl)⟩ (fun w hw => ⟨rfl, hw⟩)
theorem bitB_eq (s : Bytes) (i : Nat) : bitB s i = (s.getD (i / 8) 0).toNat / 2 ^ (7 - i % 8) % 2 := by unfold bitB; rfl
theorem shr_and1 (c : UInt8) (k : Nat) (hk : k < 8) : ((c >>> UInt8.ofNat k &&& 1).toNat : Int) = ((c.toNat / 2 ^ k % 2 : Nat) : Int) := by
  rw [UInt8.toNat_and, UInt8.toNat_shiftRight, u8_nat (by omega)]
  have : c.toNat >>> (k % 8) &&& 1 = c.toNat / 2 ^ k % 2 := by
    rw [Nat.mod_eq_of_lt hk, Nat.shiftRight_eq_div_pow]
    exact Nat.and_one_is_mod _
  exact congrArg _ this
set_option maxRecDepth 100000 in
set_option maxHeartbeats 1000000 in
theorem bit_calls (s : Bytes) (i : Nat) (w : World) (hi : i / 8 < s.length) (hil : i ≤ 4294967296) : Calls Tryd.prog 121 #[.string (bs s), .int .i64 (i : Int)] w fun e w' => e = .returned (.int .i64 (bitB s i : Int)) ∧ Cl w [] [] w' := by
  refine calls_of_CW (L := []) Tryd.func121 rfl (Nat.le_of_ble_eq_true rfl) (Cl.refl _) ?_
  refine CW.seq_k fun K1 hK1 => ?_
  refine CW.region ?_
  refine OW.q rfl rfl (yq_assign rfl (by (conv => lhs; whnf) <;> rfl)) ?_
  refine OW.nil ?_
  refine hK1 _ _ ?_
  refine CW.seq_k fun K2 hK2 => ?_
  refine CW.seq_k fun K3 hK3 => ?_
  refine CW.region ?_
  refine OW.q rfl rfl (yq_move rfl (by (conv => lhs; whnf) <;> rfl)) ?_
  refine OW.qb rfl rfl (yq_lss rfl (by (conv => lhs; whnf) <;> rfl) (by (conv => lhs; whnf) <;> rfl)) (fun b6 hb6 => ?_)
  refine OW.q rfl rfl (yq_move rfl (by (conv => lhs; whnf) <;> rfl)) ?_
  apply OW.segOr 6 [8, 9, 10, 11, 12] 13 hb6
  · intro hb6e
    refine QW.q (by subst hb6e; rfl) rfl (yq_move rfl (by (conv => lhs; whnf) <;> rfl)) ?_
    refine QW.q (by subst hb6e; rfl) rfl (yq_quo rfl (by (conv => lhs; whnf) <;> rfl) (by (conv => lhs; whnf) <;> rfl) (by omega)) ?_
    refine QW.q (by subst hb6e; rfl) rfl (yq_move rfl (by (conv => lhs; whnf) <;> rfl)) ?_
    refine QW.q (by subst hb6e; rfl) rfl (yq_len_bs rfl tt9 (by (conv => lhs; whnf) <;> rfl)) ?_
    refine QW.qb (by subst hb6e; rfl) rfl (yq_geq rfl (by (conv => lhs; whnf) <;> rfl) (by (conv => lhs; whnf) <;> rfl)) (fun b12 hb12 => ?_)
    refine QW.q rfl rfl (yq_pick rfl (by (conv => lhs; whnf) <;> rfl) (by subst hb6e; ((conv => lhs; whnf) <;> rfl))) ?_
    exact QW.nil (SegM.mk (any_c (any_c (any_c (any_c (any_c any_n))))) (or_run hb6 hb6e hb12))
  · intro hb6e
    refine QW.skip (by subst hb6e; rfl) rfl ?_
    refine QW.skip (by subst hb6e; rfl) rfl ?_
    refine QW.skip (by subst hb6e; rfl) rfl ?_
    refine QW.skip (by subst hb6e; rfl) rfl ?_
    refine QW.skip (by subst hb6e; rfl) rfl ?_
    refine QW.q rfl rfl (yq_pick rfl (by (conv => lhs; whnf) <;> rfl) (by subst hb6e; ((conv => lhs; whnf) <;> rfl))) ?_
    exact QW.nil (SegM.mk (any_c (any_c (any_c (any_c (any_c any_n))))) (or_skip hb6 hb6e))
  · intro ρ13 b13 hA hb13
    obtain ⟨x8, x9, x10, x11, x12, rfl⟩ := hA
    refine OW.nil ?_
    refine hK3 _ _ ?_
    refine CW.condq (by (conv => lhs; whnf) <;> rfl) hb13 (fun hc0 => ?_) (fun hc0 => ?_)
    · exfalso; omega
    · refine CW.skip ?_
      refine hK2 _ _ ?_
      refine CW.seq_k fun K4 hK4 => ?_
      refine CW.region ?_
      refine OW.q rfl rfl (yq_move rfl (by (conv => lhs; whnf) <;> rfl)) ?_
      refine OW.q rfl rfl (yq_move rfl (by (conv => lhs; whnf) <;> rfl)) ?_
      refine OW.q rfl rfl (yq_quo rfl (by (conv => lhs; whnf) <;> rfl) (by (conv => lhs; whnf) <;> rfl) (by omega)) ?_
      refine OW.q rfl rfl (yq_index_bs (c := s.getD (i / 8) 0) rfl (by (conv => lhs; whnf) <;> rfl) (by (conv => lhs; whnf) <;> rfl) tt9 (by omega) (by rw [show ((i : Int) / 8).toNat = i / 8 by omega, List.getD_eq_getElem?_getD, List.getElem?_eq_getElem hi]; rfl)) ?_
      refine OW.q rfl rfl (yq_move rfl (by (conv => lhs; whnf) <;> rfl)) ?_
      refine OW.q rfl rfl (yq_rem rfl (by (conv => lhs; whnf) <;> rfl) (by (conv => lhs; whnf) <;> rfl) (by omega)) ?_
      refine OW.q rfl rfl (yq_sub_e (r := ((7 - i % 8 : Nat) : Int)) rfl (by (conv => lhs; whnf) <;> rfl) (by (conv => lhs; whnf) <;> rfl) (by rw [wrap64_in (by omega)]; omega)) ?_
      refine OW.q rfl rfl (yq_shr_u8 (s := 7 - i % 8) rfl (by (conv => lhs; whnf) <;> rfl) (by (conv => lhs; whnf) <;> rfl) (by omega)) ?_
      refine OW.q rfl rfl (yq_and_u8 (b := 1) rfl (by (conv => lhs; whnf) <;> rfl) (by (conv => lhs; whnf) <;> rfl)) ?_
      refine OW.q rfl rfl (yq_conv_u8_i64 rfl Tryd.underlying5 Tryd.underlying3 (by (conv => lhs; whnf) <;> rfl)) ?_
      refine OW.q rfl rfl (yq_assign rfl (by (conv => lhs; whnf) <;> rfl)) ?_
      refine OW.nil ?_
      refine hK4 _ _ ?_
      refine CW.ret ?_
      -- ret (ret)
      rw [bitB_eq, ← shr_and1 _ _ (show 7 - i % 8 < 8 by omega)]
      exact fin1 (Or.inr rfl) rfl ⟨by decide, (by (conv => lhs; whnf) <;> rfl)⟩ (fun w hw => ⟨rfl, hw⟩)
theorem u8_half (c j : Nat) (hc : c < 256) : UInt8.ofNat (c / 2 ^ j) / 2 = UInt8.ofNat (c / 2 ^ (j + 1)) := by
  apply UInt8.toNat_inj.1
  have h1 : c / 2 ^ j ≤ c := Nat.div_le_self _ _
  have h2 : c / 2 ^ (j + 1) ≤ c := Nat.div_le_self _ _
  rw [UInt8.toNat_div, u8_nat (by omega), u8_nat (by omega), Nat.pow_succ, ← Nat.div_div_eq_div_mul]
  rfl
set_option maxRecDepth 100000 in
set_option maxHeartbeats 1000000 in
theorem refbit_calls (s : Bytes) (i : Nat) (w : World) (hi : i / 8 < s.length) (hil : i ≤ 4294967296) : Calls Tryd.prog 124 #[.string (bs s), .int .i64 (i : Int)] w fun e w' => e = .returned (.int .i64 (bitB s i : Int)) ∧ Cl w [] [] w' := by
  obtain ⟨c, hc⟩ : ∃ c, c = s.getD (i / 8) 0 := ⟨_, rfl⟩
  have hcl := c.toNat_lt
  refine calls_of_CW (L := []) Tryd.func124 rfl (Nat.le_of_ble_eq_true rfl) (Cl.refl _) ?_
  refine CW.seq_k fun K1 hK1 => ?_
  refine CW.region ?_
  refine OW.q rfl rfl (yq_assign rfl (by (conv => lhs; whnf) <;> rfl)) ?_
  refine OW.nil ?_
  refine hK1 _ _ ?_
  refine CW.seq_k fun K2 hK2 => ?_
  refine CW.seq_k fun K3 hK3 => ?_
  refine CW.region ?_
  refine OW.q rfl rfl (yq_move rfl (by (conv => lhs; whnf) <;> rfl)) ?_
  refine OW.qb rfl rfl (yq_lss rfl (by (conv => lhs; whnf) <;> rfl) (by (conv => lhs; whnf) <;> rfl)) (fun b8 hb8 => ?_)
  refine OW.q rfl rfl (yq_move rfl (by (conv => lhs; whnf) <;> rfl)) ?_
  apply OW.segOr 6 [10, 11, 12, 13, 14] 15 hb8
  · intro hb8e
    refine QW.q (by subst hb8e; rfl) rfl (yq_move rfl (by (conv => lhs; whnf) <;> rfl)) ?_
    refine QW.q (by subst hb8e; rfl) rfl (yq_quo rfl (by (conv => lhs; whnf) <;> rfl) (by (conv => lhs; whnf) <;> rfl) (by omega)) ?_
    refine QW.q (by subst hb8e; rfl) rfl (yq_move rfl (by (conv => lhs; whnf) <;> rfl)) ?_
    refine QW.q (by subst hb8e; rfl) rfl (yq_len_bs rfl tt9 (by (conv => lhs; whnf) <;> rfl)) ?_
    refine QW.qb (by subst hb8e; rfl) rfl (yq_geq rfl (by (conv => lhs; whnf) <;> rfl) (by (conv => lhs; whnf) <;> rfl)) (fun b14 hb14 => ?_)
    refine QW.q rfl rfl (yq_pick rfl (by (conv => lhs; whnf) <;> rfl) (by subst hb8e; ((conv => lhs; whnf) <;> rfl))) ?_
    exact QW.nil (SegM.mk (any_c (any_c (any_c (any_c (any_c any_n))))) (or_run hb8 hb8e hb14))
  · intro hb8e
    refine QW.skip (by subst hb8e; rfl) rfl ?_
    refine QW.skip (by subst hb8e; rfl) rfl ?_
    refine QW.skip (by subst hb8e; rfl) rfl ?_
    refine QW.skip (by subst hb8e; rfl) rfl ?_
    refine QW.skip (by subst hb8e; rfl) rfl ?_
    refine QW.q rfl rfl (yq_pick rfl (by (conv => lhs; whnf) <;> rfl) (by subst hb8e; ((conv => lhs; whnf) <;> rfl))) ?_
    exact QW.nil (SegM.mk (any_c (any_c (any_c (any_c (any_c any_n))))) (or_skip hb8 hb8e))
  · intro ρ15 b15 hA hb15
    obtain ⟨x10, x11, x12, x13, x14, rfl⟩ := hA
    refine OW.nil ?_
    refine hK3 _ _ ?_
    refine CW.condq (by (conv => lhs; whnf) <;> rfl) hb15 (fun hc0 => ?_) (fun hc0 => ?_)
    · exfalso; omega
    · refine CW.skip ?_
      refine hK2 _ _ ?_
      refine CW.seq_k fun K4 hK4 => ?_
      refine CW.region ?_
      refine OW.q rfl rfl (yq_move rfl (by (conv => lhs; whnf) <;> rfl)) ?_
      refine OW.q rfl rfl (yq_move rfl (by (conv => lhs; whnf) <;> rfl)) ?_
      refine OW.q rfl rfl (yq_quo rfl (by (conv => lhs; whnf) <;> rfl) (by (conv => lhs; whnf) <;> rfl) (by omega)) ?_
      refine OW.q rfl rfl (yq_index_bs (c := c) rfl (by (conv => lhs; whnf) <;> rfl) (by (conv => lhs; whnf) <;> rfl) tt9 (by omega) (by rw [show ((i : Int) / 8).toNat = i / 8 by omega, hc, List.getD_eq_getElem?_getD, List.getElem?_eq_getElem hi]; rfl)) ?_
      refine OW.q rfl rfl (yq_assign rfl (by (conv => lhs; whnf) <;> rfl)) ?_
      refine OW.nil ?_
      refine hK4 _ _ ?_
      refine CW.seq_k fun K5 hK5 => ?_
      refine CW.seq_k fun K6 hK6 => ?_
      refine CW.region ?_
      refine OW.q rfl rfl (yq_move rfl (by (conv => lhs; whnf) <;> rfl)) ?_
      refine OW.q rfl rfl (yq_rem rfl (by (conv => lhs; whnf) <;> rfl) (by (conv => lhs; whnf) <;> rfl) (by omega)) ?_
      refine OW.q rfl rfl (yq_assign rfl (by (conv => lhs; whnf) <;> rfl)) ?_
      refine OW.nil ?_
      refine hK6 _ _ ?_
      refine CW.block ?_
      refine CW.loop (σ := Nat) (fun j ρ L => Has ρ [(5, U8 (UInt8.ofNat (c.toNat / 2 ^ j))), (6, .int .i64 ((i % 8 + j : Nat) : Int))] ∧ i % 8 + j ≤ 7 ∧ L = []) (fun j => 7 - j) (0) ?_ ?_
      · exact ⟨Has.mk ⟨by rw [Nat.pow_zero, Nat.div_one, u8_of_nat]; exact (by (conv => lhs; whnf) <;> rfl), (by (conv => lhs; whnf) <;> rfl), trivial⟩, by omega, rfl⟩
      · rintro j _ _ ⟨⟨ρ', rfl⟩, hj, rfl⟩
        refine CW.seq_k fun K7 hK7 => ?_
        refine CW.seq_k fun K8 hK8 => ?_
        refine CW.region ?_
        refine OW.q rfl rfl (yq_move rfl (by (conv => lhs; whnf) <;> rfl)) ?_
        refine OW.q rfl rfl (yq_lss rfl (by (conv => lhs; whnf) <;> rfl) (by (conv => lhs; whnf) <;> rfl)) ?_
        refine OW.nil ?_
        refine hK8 _ _ ?_
        refine CW.cond_dec (by (conv => lhs; whnf) <;> rfl) (fun hc2 => ?_) (fun hc2 => ?_)
        · refine CW.skip ?_
          refine hK7 _ _ ?_
          refine CW.seq_k fun K9 hK9 => ?_
          refine CW.block ?_
          refine CW.region ?_
          refine OW.q rfl rfl (yq_move rfl (by (conv => lhs; whnf) <;> rfl)) ?_
          refine OW.q rfl rfl (yq_quo_u8 (b := 2) rfl (by (conv => lhs; whnf) <;> rfl) (by (conv => lhs; whnf) <;> rfl) (by decide)) ?_
          refine OW.q rfl rfl (yq_assign rfl (by (conv => lhs; whnf) <;> rfl)) ?_
          refine OW.nil ?_
          refine hK9 _ _ ?_
          refine CW.region ?_
          refine OW.q rfl rfl (yq_move rfl (by (conv => lhs; whnf) <;> rfl)) ?_
          refine OW.q rfl rfl (yq_add rfl (by (conv => lhs; whnf) <;> rfl) (by (conv => lhs; whnf) <;> rfl) (by omega)) ?_
          refine OW.q rfl rfl (yq_assign rfl (by (conv => lhs; whnf) <;> rfl)) ?_
          refine OW.nil ?_
          exact ⟨j + 1, ⟨Has.mk ⟨by rw [← u8_half _ _ hcl]; exact (by (conv => lhs; whnf) <;> rfl), (by (conv => lhs; whnf) <;> rfl), trivial⟩, by omega, rfl⟩, by omega⟩
        · have hj7 : j = 7 - i % 8 := by omega
          subst hj7
          refine CW.exit ?_
          refine then_exit ?_
          refine then_exit ?_
          refine blockQ_hit ?_
          refine hK5 _ _ ?_
          refine CW.seq_k fun K10 hK10 => ?_
          refine CW.region ?_
          refine OW.q rfl rfl (yq_move rfl (by (conv => lhs; whnf) <;> rfl)) ?_
          refine OW.q rfl rfl (yq_rem_u8 (b := 2) rfl (by (conv => lhs; whnf) <;> rfl) (by (conv => lhs; whnf) <;> rfl) (by decide)) ?_
          refine OW.q rfl rfl (yq_conv_u8_i64 rfl Tryd.underlying5 Tryd.underlying3 (by (conv => lhs; whnf) <;> rfl)) ?_
          refine OW.q rfl rfl (yq_assign rfl (by (conv => lhs; whnf) <;> rfl)) ?_
          refine OW.nil ?_
          refine hK10 _ _ ?_
          refine CW.ret ?_
          -- ret (ret)
          have hb : (UInt8.ofNat (c.toNat / 2 ^ (7 - i % 8)) % 2).toNat = bitB s i := by
            have h1 : c.toNat / 2 ^ (7 - i % 8) ≤ c.toNat := Nat.div_le_self _ _
            rw [bitB_eq, ← hc, UInt8.toNat_mod, u8_nat (by omega)]; rfl
          rw [← hb]
          exact fin1 (Or.inr rfl) rfl ⟨by decide, (by (conv => lhs; whnf) <;> rfl)⟩ (fun w hw => ⟨rfl, hw⟩)
end Go.Proofs.YtahdekllphehkaaDoor
namespace Go.Proofs.YtahdekllphehkaaDoor
open Go.WL Go.Spec
theorem textB_le (s : Bytes) (h : s.length ≤ 4294967296) : (textB s).length ≤ s.length + 10 := by
  have := numB_le (UInt64.ofNat s.length)
  rw [textB_eq, List.length_append]
  rw [u64_len h] at this
  omega
theorem shownL_eq (b : Bytes) : shownL b = sha ([3] ++ b) := by unfold shownL; rfl
theorem keyLeaf_eq (l : List Hash) : keyLeaf l = if l.length = 512 then sha ([4] ++ l.flatMap hb) else zeroHash := by unfold keyLeaf; rfl
set_option maxRecDepth 100000 in
set_option maxHeartbeats 1000000 in
theorem shown_calls (b : Bytes) (w : World) (hb : b.length ≤ 4294967200) (hg : GL w) :
    Calls Tryd.prog 128 #[.string (bs b)] w fun e w' => e = .returned (HV (shownL b)) ∧ Cl w [] [] w' := by
  refine calls_of_CW (L := []) Tryd.func128 rfl (Nat.le_of_ble_eq_true rfl) (Cl.refl _) ?_
  refine CW.seq_k fun K1 hK1 => ?_
  refine CW.region ?_
  refine OW.alloc rfl rfl rfl tz25 (fun b2 => ?_)
  refine OW.nil ?_
  refine hK1 _ _ ?_
  refine CW.seq_k fun K2 hK2 => ?_
  refine CW.region ?_
  refine OW.q rfl rfl (yq_move rfl (by (conv => lhs; whnf) <;> rfl)) ?_
  refine OW.q rfl rfl (yq_add_bs (a := [3]) rfl (by (conv => lhs; whnf) <;> rfl) (by (conv => lhs; whnf) <;> rfl) (by simp only [List.length_cons, List.length_nil]; omega)) ?_
  refine OW.q rfl rfl (yq_call rfl rfl (.cons (by (conv => lhs; whnf) <;> rfl) .nil) en100 (fun w hw => sum_calls _ w (by simp; omega) (Cl_gl0 hw hg))) ?_
  refine OW.storeH rfl rfl rfl (by (conv => lhs; whnf) <;> rfl) (by (conv => lhs; whnf) <;> rfl) ti25 (by repeat' first | exact Put.head | apply Put.tail) (hc_length _) ?_
  refine OW.nil ?_
  refine hK2 _ _ ?_
  refine CW.ret ?_
  -- ret (ret)
  rw [shownL_eq]
  exact fin1 (Or.inr rfl) rfl (rv_hash (by decide) (by (conv => lhs; whnf) <;> rfl) ti25 (by repeat' first | exact List.mem_cons_self .. | apply List.mem_cons_of_mem)) (fun w hw => ⟨rfl, hw.sub (List.nil_sublist _)⟩)
end Go.Proofs.YtahdekllphehkaaDoor
namespace Go.Proofs.YtahdekllphehkaaDoor
open Go.WL Go.Spec
def takeV (s : Bytes) (n : Nat) : Value := if s.length < n then .tuple #[.string (bs []), .string (bs []), .bool false] else .tuple #[.string (bs (s.take n)), .string (bs (s.drop n)), .bool true]
theorem takeV_short {s : Bytes} {n : Nat} (h : s.length < n) : takeV s n = .tuple #[.string (bs []), .string (bs []), .bool false] := if_pos h
theorem takeV_long {s : Bytes} {n : Nat} (h : n ≤ s.length) : takeV s n = .tuple #[.string (bs (s.take n)), .string (bs (s.drop n)), .bool true] := if_neg (by omega)
set_option maxRecDepth 100000 in
set_option maxHeartbeats 1000000 in
theorem take_calls (s : Bytes) (x : UInt64) (w : World) (hs : s.length ≤ 9223372036854775807) :
    Calls Tryd.prog 151 #[.string (bs s), U64 x] w fun e w' => e = .returned (takeV s x.toNat) ∧ Cl w [] [] w' := by
  have hx := x.toNat_lt
  have hl : (UInt64.ofNat s.length).toNat = s.length := by rw [UInt64.toNat_ofNat']; omega
  refine calls_of_CW (L := []) Tryd.func151 rfl (Nat.le_of_ble_eq_true rfl) (Cl.refl _) ?_
  refine CW.seq_k fun K1 hK1 => ?_
  refine CW.region ?_
  refine OW.q rfl rfl (yq_assign rfl (by (conv => lhs; whnf) <;> rfl)) ?_
  refine OW.q rfl rfl (yq_assign rfl (by (conv => lhs; whnf) <;> rfl)) ?_
  refine OW.q rfl rfl (yq_assign rfl (by (conv => lhs; whnf) <;> rfl)) ?_
  refine OW.nil ?_
  refine hK1 _ _ ?_
  refine CW.seq_k fun K2 hK2 => ?_
  refine CW.seq_k fun K3 hK3 => ?_
  refine CW.region ?_
  refine OW.q rfl rfl (yq_move rfl (by (conv => lhs; whnf) <;> rfl)) ?_
  refine OW.q rfl rfl (yq_move rfl (by (conv => lhs; whnf) <;> rfl)) ?_
  refine OW.q rfl rfl (yq_len_bs rfl tt9 (by (conv => lhs; whnf) <;> rfl)) ?_
  refine OW.q rfl rfl ((yq_conv_i64_u64 rfl Tryd.underlying3 Tryd.underlying147 (by (conv => lhs; whnf) <;> rfl) (by omega)).to (v' := U64 (UInt64.ofNat s.length)) (by first | rfl | simp)) ?_
  refine OW.q rfl rfl (yq_gtr rfl (by (conv => lhs; whnf) <;> rfl) (by (conv => lhs; whnf) <;> rfl)) ?_
  refine OW.nil ?_
  refine hK3 _ _ ?_
  refine CW.cond_dec (by (conv => lhs; whnf) <;> rfl) (fun hc0 => ?_) (fun hc0 => ?_)
  · rw [takeV_short (by omega)]
    refine CW.seq_k fun K4 hK4 => ?_
    refine CW.region ?_
    refine OW.q rfl rfl (yq_assign rfl (by (conv => lhs; whnf) <;> rfl)) ?_
    refine OW.q rfl rfl (yq_assign rfl (by (conv => lhs; whnf) <;> rfl)) ?_
    refine OW.q rfl rfl (yq_assign rfl (by (conv => lhs; whnf) <;> rfl)) ?_
    refine OW.nil ?_
    refine hK4 _ _ ?_
    refine CW.ret ?_
    refine then_ret ?_
    -- ret (ret)
    exact fin3 (Or.inr rfl) rfl ⟨by decide, (by (conv => lhs; whnf) <;> rfl)⟩ ⟨by decide, (by (conv => lhs; whnf) <;> rfl)⟩ ⟨by decide, (by (conv => lhs; whnf) <;> rfl)⟩ (fun w hw => ⟨rfl, hw⟩)
  · have hxl : x.toNat ≤ s.length := by omega
    clear hc0
    refine CW.skip ?_
    refine hK2 _ _ ?_
    refine CW.seq_k fun K5 hK5 => ?_
    refine CW.draw mixed (by kernel_rfl) ?_
    refine QW.q rfl rfl (yq_move rfl (by (conv => lhs; whnf) <;> rfl)) ?_
    refine QW.q rfl rfl (yq_move rfl (by (conv => lhs; whnf) <;> rfl)) ?_
    refine QW.q rfl rfl (yq_slice_bs_to (h := x.toNat) rfl (by (conv => lhs; whnf) <;> rfl) tt9 ⟨_, _, (by (conv => lhs; whnf) <;> rfl), by omega, by omega⟩ hxl) ?_
    refine QW.q rfl rfl (yq_move rfl (by (conv => lhs; whnf) <;> rfl)) ?_
    refine QW.q rfl rfl (yq_move rfl (by (conv => lhs; whnf) <;> rfl)) ?_
    refine QW.q rfl rfl (yq_slice_bs_from (l := x.toNat) rfl (by (conv => lhs; whnf) <;> rfl) tt9 ⟨_, _, (by (conv => lhs; whnf) <;> rfl), by omega, by omega⟩ hxl) ?_
    refine QW.q rfl rfl (yq_assign rfl (by (conv => lhs; whnf) <;> rfl)) ?_
    refine QW.q rfl rfl (yq_assign rfl (by (conv => lhs; whnf) <;> rfl)) ?_
    refine QW.q rfl rfl (yq_assign rfl (by (conv => lhs; whnf) <;> rfl)) ?_
    refine QW.nil ?_
    refine hK5 _ _ ?_
    refine CW.ret ?_
    -- ret (ret)
    rw [takeV_long hxl]
    exact fin3 (Or.inr rfl) rfl ⟨by decide, (by (conv => lhs; whnf) <;> rfl)⟩ ⟨by decide, (by (conv => lhs; whnf) <;> rfl)⟩ ⟨by decide, (by (conv => lhs; whnf) <;> rfl)⟩ (fun w hw => ⟨rfl, hw⟩)
theorem take_short (s : Bytes) (x : UInt64) (w : World) (hs : s.length ≤ 9223372036854775807) (h : s.length < x.toNat) : Calls Tryd.prog 151 #[.string (bs s), U64 x] w fun e w' => e = .returned (.tuple #[.string (bs []), .string (bs []), .bool false]) ∧ Cl w [] [] w' := by
  have := take_calls s x w hs
  rwa [takeV_short h] at this
theorem take_long (s : Bytes) (x : UInt64) (w : World) (hs : s.length ≤ 9223372036854775807) (h : x.toNat ≤ s.length) : Calls Tryd.prog 151 #[.string (bs s), U64 x] w fun e w' => e = .returned (.tuple #[.string (bs (s.take x.toNat)), .string (bs (s.drop x.toNat)), .bool true]) ∧ Cl w [] [] w' := by
  have := take_calls s x w hs
  rwa [takeV_long h] at this
def unhashV (s : Bytes) : Value := if s.length < 32 then .tuple #[HV zeroHash, .string (bs []), .bool false] else .tuple #[HV (toH (s.take 32)), .string (bs (s.drop 32)), .bool true]
theorem unhashV_short {s : Bytes} (h : s.length < 32) : unhashV s = .tuple #[HV zeroHash, .string (bs []), .bool false] := if_pos h
theorem unhashV_long {s : Bytes} (h : 32 ≤ s.length) : unhashV s = .tuple #[HV (toH (s.take 32)), .string (bs (s.drop 32)), .bool true] := if_neg (by omega)
theorem hc_toH {l : Bytes} (h : l.length = 32) : bc l = hc (toH l) := by
  show _ = bc (hb (toH l))
  rw [hb_toH h]
theorem spl_bytes (s : Bytes) (i : Nat) (hi : i < 32) (h32 : 32 ≤ s.length) : spl (bc (s.take i ++ List.replicate (32 - i) 0)) i [U8 (s.getD i 0)] = bc (s.take (i + 1) ++ List.replicate (32 - (i + 1)) 0) := by
  have hl : (bc (s.take i)).length = i := by simp [bc]; omega
  unfold spl
  rw [bc_app, List.take_left' hl, List.take_succ_eq_append_getElem (by omega), show (32 - i) = (32 - (i + 1)) + 1 by omega, List.replicate_succ]
  rw [show i + [U8 (s.getD i 0)].length = i + 1 from rfl, ← List.drop_drop, List.drop_left' hl, List.getD_eq_getElem?_getD, List.getElem?_eq_getElem (by omega)]
  simp only [bc, List.map_append, List.map_cons, List.map_nil, List.append_assoc, Option.getD_some, List.drop_one, List.tail_cons, List.cons_append, List.nil_append]
set_option maxRecDepth 100000 in
set_option maxHeartbeats 1000000 in
theorem unhash_calls (s : Bytes) (w : World) (hs : s.length ≤ 9223372036854775807) :
    Calls Tryd.prog 111 #[.string (bs s)] w fun e w' => e = .returned (unhashV s) ∧ Cl w [] [] w' := by
  refine calls_of_CW (L := []) Tryd.func111 rfl (Nat.le_of_ble_eq_true rfl) (Cl.refl _) ?_
  refine CW.seq_k fun K1 hK1 => ?_
  refine CW.region ?_
  refine OW.alloc rfl rfl rfl tz25 (fun b2 => ?_)
  refine OW.q rfl rfl (yq_assign rfl (by (conv => lhs; whnf) <;> rfl)) ?_
  refine OW.q rfl rfl (yq_assign rfl (by (conv => lhs; whnf) <;> rfl)) ?_
  refine OW.nil ?_
  refine hK1 _ _ ?_
  refine CW.seq_k fun K2 hK2 => ?_
  refine CW.region ?_
  rcases Nat.lt_or_ge s.length 32 with h32 | h32
  · refine OW.q rfl rfl (yq_move rfl (by (conv => lhs; whnf) <;> rfl)) ?_
    refine OW.q rfl rfl (yq_call rfl rfl (.cons (by (conv => lhs; whnf) <;> rfl) ( .cons (by (conv => lhs; whnf) <;> rfl) .nil)) en151 (fun w hw => take_short s 32 w hs h32)) ?_
    refine OW.q rfl rfl (yq_move rfl (by (conv => lhs; whnf) <;> rfl)) ?_
    refine OW.q rfl rfl (yq_extract rfl (by (conv => lhs; whnf) <;> rfl) rfl) ?_
    refine OW.q rfl rfl (yq_extract rfl (by (conv => lhs; whnf) <;> rfl) rfl) ?_
    refine OW.q rfl rfl (yq_extract rfl (by (conv => lhs; whnf) <;> rfl) rfl) ?_
    refine OW.q rfl rfl (yq_assign rfl (by (conv => lhs; whnf) <;> rfl)) ?_
    refine OW.q rfl rfl (yq_assign rfl (by (conv => lhs; whnf) <;> rfl)) ?_
    refine OW.q rfl rfl (yq_assign rfl (by (conv => lhs; whnf) <;> rfl)) ?_
    refine OW.nil ?_
    refine hK2 _ _ ?_
    refine CW.seq_k fun K3 hK3 => ?_
    refine CW.region ?_
    refine OW.q rfl rfl (yq_slice_arr_all (k := 31) rfl (by (conv => lhs; whnf) <;> rfl) ta25 ti5) ?_
    refine OW.q rfl rfl (yq_move rfl (by (conv => lhs; whnf) <;> rfl)) ?_
    refine OW.copy_bs (l := []) rfl rfl rfl (by (conv => lhs; whnf) <;> rfl) (by (conv => lhs; whnf) <;> rfl) ts92 ti5 (by simp) .head (cs' := hc zeroHash) rfl (by rw [hc_length]; simp <;> omega) ?_
    refine OW.nil ?_
    refine hK3 _ _ ?_
    refine CW.seq_k fun K4 hK4 => ?_
    refine CW.region ?_
    refine OW.q rfl rfl (yq_loadH rfl (by (conv => lhs; whnf) <;> rfl) ti25 (by repeat' first | exact List.mem_cons_self .. | apply List.mem_cons_of_mem)) ?_
    refine OW.q rfl rfl (yq_move rfl (by (conv => lhs; whnf) <;> rfl)) ?_
    refine OW.q rfl rfl (yq_move rfl (by (conv => lhs; whnf) <;> rfl)) ?_
    refine OW.storeH rfl rfl rfl (by (conv => lhs; whnf) <;> rfl) (by (conv => lhs; whnf) <;> rfl) ti25 (by repeat' first | exact Put.head | apply Put.tail) (hc_length _) ?_
    refine OW.q rfl rfl (yq_assign rfl (by (conv => lhs; whnf) <;> rfl)) ?_
    refine OW.q rfl rfl (yq_assign rfl (by (conv => lhs; whnf) <;> rfl)) ?_
    refine OW.nil ?_
    refine hK4 _ _ ?_
    refine CW.ret ?_
    -- ret (ret)
    rw [unhashV_short h32]
    exact fin3 (Or.inr rfl) rfl (rv_hash (by decide) (by (conv => lhs; whnf) <;> rfl) ti25 (by repeat' first | exact List.mem_cons_self .. | apply List.mem_cons_of_mem)) ⟨by decide, (by (conv => lhs; whnf) <;> rfl)⟩ ⟨by decide, (by (conv => lhs; whnf) <;> rfl)⟩ (fun w hw => ⟨rfl, hw.sub (List.nil_sublist _)⟩)
  · refine OW.q rfl rfl (yq_move rfl (by (conv => lhs; whnf) <;> rfl)) ?_
    refine OW.q rfl rfl (yq_call rfl rfl (.cons (by (conv => lhs; whnf) <;> rfl) ( .cons (by (conv => lhs; whnf) <;> rfl) .nil)) en151 (fun w hw => take_long s 32 w hs h32)) ?_
    refine OW.q rfl rfl (yq_move rfl (by (conv => lhs; whnf) <;> rfl)) ?_
    refine OW.q rfl rfl (yq_extract rfl (by (conv => lhs; whnf) <;> rfl) rfl) ?_
    refine OW.q rfl rfl (yq_extract rfl (by (conv => lhs; whnf) <;> rfl) rfl) ?_
    refine OW.q rfl rfl (yq_extract rfl (by (conv => lhs; whnf) <;> rfl) rfl) ?_
    refine OW.q rfl rfl (yq_assign rfl (by (conv => lhs; whnf) <;> rfl)) ?_
    refine OW.q rfl rfl (yq_assign rfl (by (conv => lhs; whnf) <;> rfl)) ?_
    refine OW.q rfl rfl (yq_assign rfl (by (conv => lhs; whnf) <;> rfl)) ?_
    refine OW.nil ?_
    refine hK2 _ _ ?_
    refine CW.seq_k fun K5 hK5 => ?_
    refine CW.region ?_
    refine OW.q rfl rfl (yq_slice_arr_all (k := 31) rfl (by (conv => lhs; whnf) <;> rfl) ta25 ti5) ?_
    refine OW.q rfl rfl (yq_move rfl (by (conv => lhs; whnf) <;> rfl)) ?_
    refine OW.copy_bs (l := s.take 32) rfl rfl rfl (by (conv => lhs; whnf) <;> rfl) (by (conv => lhs; whnf) <;> rfl) ts92 ti5 (by simp; omega) .head (cs' := hc (toH (s.take 32))) (by rw [← hc_toH (by simp; omega)]; unfold spl; simp [bc, List.drop_eq_nil_of_le, hc_length] <;> omega) (by rw [hc_length]; simp <;> omega) ?_
    refine OW.nil ?_
    refine hK5 _ _ ?_
    refine CW.seq_k fun K6 hK6 => ?_
    refine CW.region ?_
    refine OW.q rfl rfl (yq_loadH rfl (by (conv => lhs; whnf) <;> rfl) ti25 (by repeat' first | exact List.mem_cons_self .. | apply List.mem_cons_of_mem)) ?_
    refine OW.q rfl rfl (yq_move rfl (by (conv => lhs; whnf) <;> rfl)) ?_
    refine OW.q rfl rfl (yq_move rfl (by (conv => lhs; whnf) <;> rfl)) ?_
    refine OW.storeH rfl rfl rfl (by (conv => lhs; whnf) <;> rfl) (by (conv => lhs; whnf) <;> rfl) ti25 (by repeat' first | exact Put.head | apply Put.tail) (hc_length _) ?_
    refine OW.q rfl rfl (yq_assign rfl (by (conv => lhs; whnf) <;> rfl)) ?_
    refine OW.q rfl rfl (yq_assign rfl (by (conv => lhs; whnf) <;> rfl)) ?_
    refine OW.nil ?_
    refine hK6 _ _ ?_
    refine CW.ret ?_
    -- ret (ret)
    rw [unhashV_long h32]
    exact fin3 (Or.inr rfl) rfl (rv_hash (by decide) (by (conv => lhs; whnf) <;> rfl) ti25 (by repeat' first | exact List.mem_cons_self .. | apply List.mem_cons_of_mem)) ⟨by decide, (by (conv => lhs; whnf) <;> rfl)⟩ ⟨by decide, (by (conv => lhs; whnf) <;> rfl)⟩ (fun w hw => ⟨rfl, hw.sub (List.nil_sublist _)⟩)
set_option maxRecDepth 100000 in
set_option maxHeartbeats 1000000 in
theorem refunhash_calls (s : Bytes) (w : World) (hs : s.length ≤ 9223372036854775807) :
    Calls Tryd.prog 129 #[.string (bs s)] w fun e w' => e = .returned (unhashV s) ∧ Cl w [] [] w' := by
  refine calls_of_CW (L := []) Tryd.func129 rfl (Nat.le_of_ble_eq_true rfl) (Cl.refl _) ?_
  refine CW.seq_k fun K1 hK1 => ?_
  refine CW.region ?_
  refine OW.alloc rfl rfl rfl tz25 (fun b2 => ?_)
  refine OW.q rfl rfl (yq_assign rfl (by (conv => lhs; whnf) <;> rfl)) ?_
  refine OW.q rfl rfl (yq_assign rfl (by (conv => lhs; whnf) <;> rfl)) ?_
  refine OW.nil ?_
  refine hK1 _ _ ?_
  refine CW.seq_k fun K2 hK2 => ?_
  refine CW.region ?_
  refine OW.alloc rfl rfl rfl tz25 (fun b5 => ?_)
  refine OW.nil ?_
  refine hK2 _ _ ?_
  refine CW.seq_k fun K3 hK3 => ?_
  refine CW.seq_k fun K4 hK4 => ?_
  refine CW.region ?_
  refine OW.q rfl rfl (yq_move rfl (by (conv => lhs; whnf) <;> rfl)) ?_
  refine OW.q rfl rfl (yq_len_bs rfl tt9 (by (conv => lhs; whnf) <;> rfl)) ?_
  refine OW.q rfl rfl (yq_lss rfl (by (conv => lhs; whnf) <;> rfl) (by (conv => lhs; whnf) <;> rfl)) ?_
  refine OW.nil ?_
  refine hK4 _ _ ?_
  refine CW.cond_dec (by (conv => lhs; whnf) <;> rfl) (fun hc0 => ?_) (fun hc0 => ?_)
  · have h32 : s.length < 32 := by omega
    refine CW.seq_k fun K5 hK5 => ?_
    refine CW.region ?_
    refine OW.q rfl rfl (yq_loadH rfl (by (conv => lhs; whnf) <;> rfl) ti25 (by repeat' first | exact List.mem_cons_self .. | apply List.mem_cons_of_mem)) ?_
    refine OW.storeH rfl rfl rfl (by (conv => lhs; whnf) <;> rfl) (by (conv => lhs; whnf) <;> rfl) ti25 (by repeat' first | exact Put.head | apply Put.tail) (hc_length _) ?_
    refine OW.q rfl rfl (yq_assign rfl (by (conv => lhs; whnf) <;> rfl)) ?_
    refine OW.q rfl rfl (yq_assign rfl (by (conv => lhs; whnf) <;> rfl)) ?_
    refine OW.nil ?_
    refine hK5 _ _ ?_
    refine CW.ret ?_
    refine then_ret ?_
    -- ret (ret)
    rw [unhashV_short h32]
    exact fin3 (Or.inr rfl) rfl (rv_hash (by decide) (by (conv => lhs; whnf) <;> rfl) ti25 (by repeat' first | exact List.mem_cons_self .. | apply List.mem_cons_of_mem)) ⟨by decide, (by (conv => lhs; whnf) <;> rfl)⟩ ⟨by decide, (by (conv => lhs; whnf) <;> rfl)⟩ (fun w hw => ⟨rfl, hw.sub (List.nil_sublist _)⟩)
  · have h32 : 32 ≤ s.length := by omega
    clear hc0
    refine CW.skip ?_
    refine hK3 _ _ ?_
    refine CW.seq_k fun K6 hK6 => ?_
    refine CW.seq_k fun K7 hK7 => ?_
    refine CW.region ?_
    refine OW.q rfl rfl (yq_assign rfl (by (conv => lhs; whnf) <;> rfl)) ?_
    refine OW.nil ?_
    refine hK7 _ _ ?_
    refine CW.block ?_
    refine CW.loop (σ := Nat) (fun i ρ L => Has ρ [(0, .string (bs s)), (2, .pointer (some ⟨b2, 0, none⟩)), (5, .pointer (some ⟨b5, 0, none⟩)), (6, .int .i64 (i : Int))] ∧ i ≤ 32 ∧ L = [.blk b5 (bc (s.take i ++ List.replicate (32 - i) 0)) 25 (0, 0), .blk b2 (hc zeroHash) 25 (0, 0)]) (fun i => 32 - i) (0) ?_ ?_
    · exact ⟨Has.mk ⟨(by (conv => lhs; whnf) <;> rfl), (by (conv => lhs; whnf) <;> rfl), (by (conv => lhs; whnf) <;> rfl), (by (conv => lhs; whnf) <;> rfl), trivial⟩, by omega, rfl⟩
    · rintro i _ _ ⟨⟨ρ', rfl⟩, hi, rfl⟩
      refine CW.seq_k fun K8 hK8 => ?_
      refine CW.seq_k fun K9 hK9 => ?_
      refine CW.region ?_
      refine OW.q rfl rfl (yq_move rfl (by (conv => lhs; whnf) <;> rfl)) ?_
      refine OW.q rfl rfl (yq_lss rfl (by (conv => lhs; whnf) <;> rfl) (by (conv => lhs; whnf) <;> rfl)) ?_
      refine OW.nil ?_
      refine hK9 _ _ ?_
      refine CW.cond_dec (by (conv => lhs; whnf) <;> rfl) (fun hc2 => ?_) (fun hc2 => ?_)
      · have hlt : i < 32 := by omega
        refine CW.skip ?_
        refine hK8 _ _ ?_
        refine CW.seq_k fun K10 hK10 => ?_
        refine CW.block ?_
        refine CW.region ?_
        refine OW.q rfl rfl (yq_move rfl (by (conv => lhs; whnf) <;> rfl)) ?_
        refine OW.q rfl rfl (yq_move rfl (by (conv => lhs; whnf) <;> rfl)) ?_
        refine OW.q rfl rfl (yq_move rfl (by (conv => lhs; whnf) <;> rfl)) ?_
        refine OW.q rfl rfl (yq_index_bs (c := s.getD i 0) rfl (by (conv => lhs; whnf) <;> rfl) (by (conv => lhs; whnf) <;> rfl) tt9 (by omega) (by rw [Int.toNat_natCast, List.getD_eq_getElem?_getD, List.getElem?_eq_getElem (by omega)]; rfl)) ?_
        refine OW.q rfl rfl (yq_index_arr rfl (by (conv => lhs; whnf) <;> rfl) (by (conv => lhs; whnf) <;> rfl) ta25 ti5 (by omega) (by omega)) ?_
        refine OW.store' rfl rfl rfl (by (conv => lhs; whnf) <;> rfl) (by (conv => lhs; whnf) <;> rfl) (vs := [U8 (s.getD i 0)]) ti5 rfl (by simp; rfl) .head (cs' := bc (s.take (i + 1) ++ List.replicate (32 - (i + 1)) 0)) (by rw [Nat.zero_add, Int.toNat_natCast, Nat.mul_one]; exact spl_bytes s i hlt h32) (by simp [bc]; omega) ?_
        refine OW.nil ?_
        refine hK10 _ _ ?_
        refine CW.region ?_
        refine OW.q rfl rfl (yq_move rfl (by (conv => lhs; whnf) <;> rfl)) ?_
        refine OW.q rfl rfl (yq_add rfl (by (conv => lhs; whnf) <;> rfl) (by (conv => lhs; whnf) <;> rfl) (by omega)) ?_
        refine OW.q rfl rfl (yq_assign rfl (by (conv => lhs; whnf) <;> rfl)) ?_
        refine OW.nil ?_
        exact ⟨i + 1, ⟨Has.mk ⟨(by (conv => lhs; whnf) <;> rfl), (by (conv => lhs; whnf) <;> rfl), (by (conv => lhs; whnf) <;> rfl), (by (conv => lhs; whnf) <;> rfl), trivial⟩, by omega, rfl⟩, by omega⟩
      · have hj5 : i = 32 := by omega
        subst hj5
        refine CW.exit ?_
        refine then_exit ?_
        refine then_exit ?_
        refine blockQ_hit ?_
        refine hK6 _ _ ?_
        refine CW.seq_k fun K11 hK11 => ?_
        rw [Nat.sub_self, List.replicate_zero, List.append_nil, hc_toH (l := s.take 32) (by simp; omega)]
        refine CW.held ([.blk b5 (hc (toH (s.take 32))) 25 (0, 0)]) mixed ?_
        refine HW.take 0 rfl (by kernel_rfl) (by kernel_rfl) (by kernel_rfl) rfl rfl (by repeat' first | exact List.Sublist.refl _ | exact List.nil_sublist _ | apply List.Sublist.cons_cons | apply List.Sublist.cons) (yv_of_yq rfl (yq_loadH rfl (by (conv => lhs; whnf) <;> rfl) ti25 (by repeat' first | exact List.mem_cons_self .. | apply List.mem_cons_of_mem))) ?_
        refine HW.take 1 rfl (by kernel_rfl) (by kernel_rfl) (by kernel_rfl) rfl rfl (by repeat' first | exact List.Sublist.refl _ | exact List.nil_sublist _ | apply List.Sublist.cons_cons | apply List.Sublist.cons) (yv_of_yq rfl (yq_move rfl (by (conv => lhs; whnf) <;> rfl))) ?_
        refine HW.take 2 rfl (by kernel_rfl) (by kernel_rfl) (by kernel_rfl) rfl rfl (by repeat' first | exact List.Sublist.refl _ | exact List.nil_sublist _ | apply List.Sublist.cons_cons | apply List.Sublist.cons) (yv_of_yq rfl (yq_slice_bs_from (l := 32) rfl (by (conv => lhs; whnf) <;> rfl) tt9 ⟨_, _, (by (conv => lhs; whnf) <;> rfl), by omega, by rfl⟩ h32)) ?_
        refine HW.one 3 (by kernel_rfl) rfl ?_
        refine OW.storeH rfl rfl rfl (by (conv => lhs; whnf) <;> rfl) (by (conv => lhs; whnf) <;> rfl) ti25 (by repeat' first | exact Put.head | apply Put.tail) (hc_length _) ?_
        refine OW.nil ⟨rfl, (by repeat' first | exact List.Sublist.refl _ | exact List.nil_sublist _ | apply List.Sublist.cons_cons | apply List.Sublist.cons), ?_⟩
        refine HW.take 4 rfl (by kernel_rfl) (by kernel_rfl) (by kernel_rfl) rfl rfl (by repeat' first | exact List.Sublist.refl _ | exact List.nil_sublist _ | apply List.Sublist.cons_cons | apply List.Sublist.cons) (yv_of_yq rfl (yq_assign rfl (by (conv => lhs; whnf) <;> rfl))) ?_
        refine HW.take 5 rfl (by kernel_rfl) (by kernel_rfl) (by kernel_rfl) rfl rfl (by repeat' first | exact List.Sublist.refl _ | exact List.nil_sublist _ | apply List.Sublist.cons_cons | apply List.Sublist.cons) (yv_of_yq rfl (yq_assign rfl (by (conv => lhs; whnf) <;> rfl))) ?_
        refine HW.done (by kernel_rfl) ?_
        refine hK11 _ _ ?_
        refine CW.ret ?_
        -- ret (ret)
        rw [unhashV_long h32]
        exact fin3 (Or.inr rfl) rfl (rv_hash (by decide) (by (conv => lhs; whnf) <;> rfl) ti25 (by repeat' first | exact List.mem_cons_self .. | apply List.mem_cons_of_mem)) ⟨by decide, (by (conv => lhs; whnf) <;> rfl)⟩ ⟨by decide, (by (conv => lhs; whnf) <;> rfl)⟩ (fun w hw => ⟨rfl, hw.sub (List.nil_sublist _)⟩)
def leafT (l : List Hash) (j : Nat) : Bytes := [4] ++ (l.take j).flatMap hb
theorem leafT_length (l : List Hash) (j : Nat) (h : j ≤ l.length) : (leafT l j).length = 1 + 32 * j := by
  unfold leafT
  rw [List.length_append, flatHb_length, List.length_take, Nat.min_eq_left h]; rfl
theorem leafT_succ (l : List Hash) (j : Nat) (h : j < l.length) : leafT l (j + 1) = leafT l j ++ hb (l.getD j zeroHash) := by
  unfold leafT
  rw [List.take_succ_eq_append_getElem h, List.flatMap_append, List.flatMap_singleton, List.append_assoc, List.getD_eq_getElem?_getD, List.getElem?_eq_getElem h]; rfl
theorem leafT_all (l : List Hash) (h : l.length = 512) : keyLeaf l = sha (leafT l 512) := by
  rw [keyLeaf_eq, if_pos h]; unfold leafT; rw [List.take_of_length_le (by omega)]
set_option maxRecDepth 100000 in
set_option maxHeartbeats 1000000 in
theorem keyleaf_calls (v : Value) (l : List Hash) (w : World) (hs : HsAt w v l) (hg : GL w) :
    Calls Tryd.prog 60 #[v] w fun e w' => e = .returned (HV (keyLeaf l)) ∧ Cl w [] [] w' := by
  have hs0 := hs
  obtain ⟨a0, cap0, rfl⟩ := hs0.len
  refine calls_of_CW (L := []) Tryd.func60 rfl (Nat.le_of_ble_eq_true rfl) (Cl.refl _) ?_
  refine CW.seq_k fun K1 hK1 => ?_
  refine CW.region ?_
  refine OW.alloc rfl rfl rfl tz25 (fun b2 => ?_)
  refine OW.nil ?_
  refine hK1 _ _ ?_
  refine CW.seq_k fun K2 hK2 => ?_
  refine CW.seq_k fun K3 hK3 => ?_
  refine CW.region ?_
  refine OW.q rfl rfl (yq_move rfl (by (conv => lhs; whnf) <;> rfl)) ?_
  refine OW.q rfl rfl (yq_len_slice rfl ts22 (by (conv => lhs; whnf) <;> rfl)) ?_
  refine OW.q rfl rfl (yq_neq rfl (by (conv => lhs; whnf) <;> rfl) (by (conv => lhs; whnf) <;> rfl)) ?_
  refine OW.nil ?_
  refine hK3 _ _ ?_
  refine CW.cond_dec (by (conv => lhs; whnf) <;> rfl) (fun hc0 => ?_) (fun hc0 => ?_)
  · refine CW.seq_k fun K4 hK4 => ?_
    refine CW.region ?_
    refine OW.q rfl rfl (yq_build (parts := []) (pv := []) (cs := hc zeroHash) rfl rfl (by kernel_rfl)) ?_
    refine OW.storeH rfl rfl rfl (by (conv => lhs; whnf) <;> rfl) (by (conv => lhs; whnf) <;> rfl) ti25 (by repeat' first | exact Put.head | apply Put.tail) (hc_length _) ?_
    refine OW.nil ?_
    refine hK4 _ _ ?_
    refine CW.ret ?_
    refine then_ret ?_
    -- ret (ret)
    rw [keyLeaf_eq, if_neg (by omega)]
    exact fin1 (Or.inr rfl) rfl (rv_hash (by decide) (by (conv => lhs; whnf) <;> rfl) ti25 (by repeat' first | exact List.mem_cons_self .. | apply List.mem_cons_of_mem)) (fun w hw => ⟨rfl, hw.sub (List.nil_sublist _)⟩)
  · have hl : l.length = 512 := by omega
    obtain ⟨b, off, cp, hv, hcp⟩ := hs.place (fun e => by subst e; simp at hl)
    rw [Value.slice.injEq] at hv
    obtain ⟨rfl, _, rfl⟩ := hv
    refine CW.skip ?_
    refine hK2 _ _ ?_
    refine CW.seq_k fun K5 hK5 => ?_
    refine CW.region ?_
    refine OW.nilrow 5 1 ?_
    refine OW.alloc rfl rfl rfl tz170 (fun b3 => ?_)
    refine OW.nil ?_
    refine hK5 _ _ ?_
    refine CW.seq_k fun K6 hK6 => ?_
    refine CW.region ?_
    refine OW.callB rfl rfl rfl (by (conv => lhs; whnf) <;> rfl) (.cons (by (conv => lhs; whnf) <;> rfl) (.cons (by (conv => lhs; whnf) <;> rfl) .nil)) en130 (fun w1 hw1 => wbyte_calls b3 (.pointer none) none 0 0 [] 4 (.inl rfl) (by omega) hw1) ?_
    rintro _ _ ⟨rfl, a1, c1, rfl⟩
    refine OW.nil ?_
    refine hK6 _ _ ?_
    refine CW.seq_k fun K7 hK7 => ?_
    refine CW.seq_k fun K8 hK8 => ?_
    refine CW.region ?_
    refine OW.q rfl rfl (yq_move rfl (by (conv => lhs; whnf) <;> rfl)) ?_
    refine OW.q rfl rfl (yq_len_slice rfl ts22 (by (conv => lhs; whnf) <;> rfl)) ?_
    refine OW.q rfl rfl (yq_move rfl (by (conv => lhs; whnf) <;> rfl)) ?_
    refine OW.nil ?_
    refine hK8 _ _ ?_
    refine CW.block ?_
    refine CW.loop (σ := Nat) (fun j ρ L => ∃ a cap, Has ρ [(2, .pointer (some ⟨b2, 0, none⟩)), (3, selfP b3), (11, .slice (some ⟨b, off, none⟩) l.length cap0), (12, .int .i64 (l.length : Int)), (13, .int .i64 (j : Int))] ∧ j ≤ 512 ∧ L = [.blk b3 [selfP b3, rowV a (leafT l j).length cap] 170 (0, 0), .row a cap (leafT l j).length 5 1 (bc (leafT l j)), .blk b2 (hc zeroHash) 25 (0, 0)]) (fun j => 512 - j) (0) ?_ ?_
    · exact ⟨a1, c1, Has.mk ⟨(by (conv => lhs; whnf) <;> rfl), (by (conv => lhs; whnf) <;> rfl), (by (conv => lhs; whnf) <;> rfl), (by (conv => lhs; whnf) <;> rfl), (by (conv => lhs; whnf) <;> rfl), trivial⟩, by omega, rfl⟩
    · rintro j _ _ ⟨a, cap, ⟨ρ', rfl⟩, hj, rfl⟩
      have hlen := leafT_length l j (by omega)
      refine CW.seq_k fun K9 hK9 => ?_
      refine CW.region ?_
      refine OW.q rfl rfl (yq_lss rfl (by (conv => lhs; whnf) <;> rfl) (by (conv => lhs; whnf) <;> rfl)) ?_
      refine OW.nil ?_
      refine hK9 _ _ ?_
      refine CW.seq_k fun K10 hK10 => ?_
      refine CW.cond_dec (by (conv => lhs; whnf) <;> rfl) (fun hc2 => ?_) (fun hc2 => ?_)
      · have hlt : j < 512 := by omega
        refine CW.skip ?_
        refine hK10 _ _ ?_
        refine CW.seq_k fun K11 hK11 => ?_
        refine CW.block ?_
        refine CW.seq_k fun K12 hK12 => ?_
        refine CW.region ?_
        refine OW.q rfl rfl (yq_index_slice rfl (by (conv => lhs; whnf) <;> rfl) (by (conv => lhs; whnf) <;> rfl) ts22 ti25 (by omega) (by omega)) ?_
        refine OW.q rfl rfl (yq_load_hs (i := j) (v := l.getD j zeroHash) rfl (by (conv => lhs; whnf) <;> rfl) ti25 (fun w hw => hs.mono hw) (at_of_lt (by omega))) ?_
        refine OW.alloc rfl rfl rfl tz25 (fun b5 => ?_)
        refine OW.storeH rfl rfl rfl (by (conv => lhs; whnf) <;> rfl) (by (conv => lhs; whnf) <;> rfl) ti25 (by repeat' first | exact Put.head | apply Put.tail) (hc_length _) ?_
        refine OW.nil ?_
        refine hK12 _ _ ?_
        refine CW.region ?_
        refine OW.q rfl rfl (yq_loadH (v := l.getD j zeroHash) rfl (by (conv => lhs; whnf) <;> rfl) ti25 (by repeat' first | exact List.mem_cons_self .. | apply List.mem_cons_of_mem)) ?_
        refine OW.drop (List.sublist_cons_self _ _) ?_
        refine OW.q rfl rfl (yq_call rfl rfl (.cons (by (conv => lhs; whnf) <;> rfl) .nil) en103 (fun w hw => hash_calls _ w)) ?_
        refine OW.callB rfl rfl rfl (by (conv => lhs; whnf) <;> rfl) (.cons (by (conv => lhs; whnf) <;> rfl) (.cons (by (conv => lhs; whnf) <;> rfl) .nil)) en122 (fun w1 hw1 => wstr_calls b3 (selfP b3) a cap (leafT l j).length (bc (leafT l j)) (hb (l.getD j zeroHash)) (.inr rfl) (by rw [hb_length]; omega) hw1) ?_
        rintro _ _ ⟨rfl, a1, c1, rfl⟩
        refine OW.nil ?_
        refine hK11 _ _ ?_
        refine CW.region ?_
        refine OW.q rfl rfl (yq_add rfl (by (conv => lhs; whnf) <;> rfl) (by (conv => lhs; whnf) <;> rfl) (by omega)) ?_
        refine OW.q rfl rfl (yq_move rfl (by (conv => lhs; whnf) <;> rfl)) ?_
        refine OW.nil ?_
        refine ⟨j + 1, ⟨a1, c1, Has.mk ⟨(by (conv => lhs; whnf) <;> rfl), (by (conv => lhs; whnf) <;> rfl), (by (conv => lhs; whnf) <;> rfl), (by (conv => lhs; whnf) <;> rfl), (by (conv => lhs; whnf) <;> rfl), trivial⟩, by omega, ?_⟩, by omega⟩
        rw [leafT_succ l j (by omega), List.length_append, bc_app]; rfl
      · have hj5 : j = 512 := by omega
        subst hj5
        refine CW.exit ?_
        refine then_exit ?_
        refine then_exit ?_
        refine blockQ_hit ?_
        refine hK7 _ _ ?_
        refine CW.seq_k fun K13 hK13 => ?_
        refine CW.know _ (know_row (k := (leafT l 512).length) (by repeat' first | exact List.mem_cons_self .. | apply List.mem_cons_of_mem) (by omega)) ?_
        rintro ⟨g, rfl⟩
        refine CW.region ?_
        refine OW.callB (K := fun v L1 => v = .string (bs (leafT l 512)) ∧ L1 = [.blk b3 [selfP b3, rowV (some g) (leafT l 512).length cap] 170 (0, 0)]) rfl rfl rfl (by (conv => lhs; whnf) <;> rfl) (.cons (by (conv => lhs; whnf) <;> rfl) .nil) en123 (fun w1 hw1 => (bstr_calls b3 g (selfP b3) cap (leafT l 512) (fun e => by rw [e] at hlen; simp at hlen) hw1).mono fun e w' ⟨h1, h2⟩ => ⟨_, _, h1, h2, rfl, rfl⟩) ?_
        rintro _ _ ⟨rfl, rfl⟩
        refine OW.q rfl rfl (yq_call rfl rfl (.cons (by (conv => lhs; whnf) <;> rfl) .nil) en100 (fun w hw => sum_calls _ w (by omega) (Cl_gl0 hw hg))) ?_
        refine OW.storeH rfl rfl rfl (by (conv => lhs; whnf) <;> rfl) (by (conv => lhs; whnf) <;> rfl) ti25 (by repeat' first | exact Put.head | apply Put.tail) (hc_length _) ?_
        refine OW.nil ?_
        refine hK13 _ _ ?_
        refine CW.ret ?_
        -- ret (ret)
        rw [leafT_all l hl]
        exact fin1 (Or.inr rfl) rfl (rv_hash (by decide) (by (conv => lhs; whnf) <;> rfl) ti25 (by repeat' first | exact List.mem_cons_self .. | apply List.mem_cons_of_mem)) (fun w hw => ⟨rfl, hw.sub (List.nil_sublist _)⟩)
set_option maxRecDepth 100000 in
set_option maxHeartbeats 1000000 in
theorem refkeyleaf_calls (v : Value) (l : List Hash) (w : World) (hs : HsAt w v l) :
    Calls Tryd.prog 61 #[v] w fun e w' => e = .returned (HV (keyLeaf l)) ∧ Cl w [] [] w' := by
  have hs0 := hs
  obtain ⟨a0, cap0, rfl⟩ := hs0.len
  refine calls_of_CW (L := []) Tryd.func61 rfl (Nat.le_of_ble_eq_true rfl) (Cl.refl _) ?_
  refine CW.seq_k fun K1 hK1 => ?_
  refine CW.region ?_
  refine OW.alloc rfl rfl rfl tz25 (fun b2 => ?_)
  refine OW.nil ?_
  refine hK1 _ _ ?_
  refine CW.seq_k fun K2 hK2 => ?_
  refine CW.seq_k fun K3 hK3 => ?_
  refine CW.region ?_
  refine OW.q rfl rfl (yq_move rfl (by (conv => lhs; whnf) <;> rfl)) ?_
  refine OW.q rfl rfl (yq_len_slice rfl ts22 (by (conv => lhs; whnf) <;> rfl)) ?_
  refine OW.q rfl rfl (yq_neq rfl (by (conv => lhs; whnf) <;> rfl) (by (conv => lhs; whnf) <;> rfl)) ?_
  refine OW.nil ?_
  refine hK3 _ _ ?_
  refine CW.cond_dec (by (conv => lhs; whnf) <;> rfl) (fun hc0 => ?_) (fun hc0 => ?_)
  · refine CW.seq_k fun K4 hK4 => ?_
    refine CW.region ?_
    refine OW.q rfl rfl (yq_build (parts := []) (pv := []) (cs := hc zeroHash) rfl rfl (by kernel_rfl)) ?_
    refine OW.storeH rfl rfl rfl (by (conv => lhs; whnf) <;> rfl) (by (conv => lhs; whnf) <;> rfl) ti25 (by repeat' first | exact Put.head | apply Put.tail) (hc_length _) ?_
    refine OW.nil ?_
    refine hK4 _ _ ?_
    refine CW.ret ?_
    refine then_ret ?_
    -- ret (ret)
    rw [keyLeaf_eq, if_neg (by omega)]
    exact fin1 (Or.inr rfl) rfl (rv_hash (by decide) (by (conv => lhs; whnf) <;> rfl) ti25 (by repeat' first | exact List.mem_cons_self .. | apply List.mem_cons_of_mem)) (fun w hw => ⟨rfl, hw.sub (List.nil_sublist _)⟩)
  · have hl : l.length = 512 := by omega
    obtain ⟨b, off, cp, hv, hcp⟩ := hs.place (fun e => by subst e; simp at hl)
    rw [Value.slice.injEq] at hv
    obtain ⟨rfl, _, rfl⟩ := hv
    refine CW.skip ?_
    refine hK2 _ _ ?_
    refine CW.seq_k fun K5 hK5 => ?_
    refine CW.region ?_
    refine OW.slicelit (vs := [U8 4]) rfl rfl rfl rfl ts92 ti5 tz5 (by decide) rfl (by decide) (by simp [Value.cells]) (by decide) (cs := [U8 4]) rfl (fun bl => ?_)
    refine OW.toRow (k := 1) (size := 1) .head rfl (by decide) ?_
    refine OW.q rfl rfl (yq_assign rfl (by (conv => lhs; whnf) <;> rfl)) ?_
    refine OW.nil ?_
    refine hK5 _ _ ?_
    refine CW.seq_k fun K6 hK6 => ?_
    refine CW.seq_k fun K7 hK7 => ?_
    refine CW.region ?_
    refine OW.q rfl rfl (yq_assign rfl (by (conv => lhs; whnf) <;> rfl)) ?_
    refine OW.nil ?_
    refine hK7 _ _ ?_
    refine CW.block ?_
    refine CW.loop (σ := Nat) (fun j ρ L => ∃ a cap, Has ρ [(0, .slice (some ⟨b, off, none⟩) l.length cap0), (2, .pointer (some ⟨b2, 0, none⟩)), (3, rowV a (leafT l j).length cap), (4, .int .i64 (j : Int))] ∧ j ≤ 512 ∧ L = [.row a cap (leafT l j).length 5 1 (bc (leafT l j)), .blk b2 (hc zeroHash) 25 (0, 0)]) (fun j => 512 - j) (0) ?_ ?_
    · exact ⟨some bl, 1, Has.mk ⟨(by (conv => lhs; whnf) <;> rfl), (by (conv => lhs; whnf) <;> rfl), (by (conv => lhs; whnf) <;> rfl), (by (conv => lhs; whnf) <;> rfl), trivial⟩, by omega, rfl⟩
    · rintro j _ _ ⟨a, cap, ⟨ρ', rfl⟩, hj, rfl⟩
      have hlen := leafT_length l j (by omega)
      refine CW.seq_k fun K8 hK8 => ?_
      refine CW.seq_k fun K9 hK9 => ?_
      refine CW.region ?_
      refine OW.q rfl rfl (yq_move rfl (by (conv => lhs; whnf) <;> rfl)) ?_
      refine OW.q rfl rfl (yq_lss rfl (by (conv => lhs; whnf) <;> rfl) (by (conv => lhs; whnf) <;> rfl)) ?_
      refine OW.nil ?_
      refine hK9 _ _ ?_
      refine CW.cond_dec (by (conv => lhs; whnf) <;> rfl) (fun hc2 => ?_) (fun hc2 => ?_)
      · have hlt : j < 512 := by omega
        refine CW.skip ?_
        refine hK8 _ _ ?_
        refine CW.seq_k fun K10 hK10 => ?_
        refine CW.block ?_
        refine CW.region ?_
        refine OW.q rfl rfl (yq_move rfl (by (conv => lhs; whnf) <;> rfl)) ?_
        refine OW.q rfl rfl (yq_move rfl (by (conv => lhs; whnf) <;> rfl)) ?_
        refine OW.q rfl rfl (yq_move rfl (by (conv => lhs; whnf) <;> rfl)) ?_
        refine OW.q rfl rfl (yq_index_slice rfl (by (conv => lhs; whnf) <;> rfl) (by (conv => lhs; whnf) <;> rfl) ts22 ti25 (by omega) (by omega)) ?_
        refine OW.q rfl rfl ((yq_slice_arr (k := 32) (l := 0) (h := 32) rfl (by (conv => lhs; whnf) <;> rfl) ta25 ti5 (by rfl) (by rfl) (by decide) (by decide)).to (v' := .slice (some ⟨b, off + j * 32, none⟩) 32 32) (by simp)) ?_
        refine OW.append (news := hc (l.getD j zeroHash)) rfl rfl rfl (by (conv => lhs; whnf) <;> rfl) (by (conv => lhs; whnf) <;> rfl) ts92 ti5 tz5 (by repeat' first | exact Del.head | apply Del.tail) (fun w hw => hsCell (hs.mono hw) j (by omega)) (by rw [hc_length]) (hc_one _) rfl (by decide) (by simp only [maxLen]; omega) (by omega) (fun a' cap' => ?_)
        refine OW.q rfl rfl (yq_assign rfl (by (conv => lhs; whnf) <;> rfl)) ?_
        refine OW.nil ?_
        refine hK10 _ _ ?_
        refine CW.region ?_
        refine OW.q rfl rfl (yq_move rfl (by (conv => lhs; whnf) <;> rfl)) ?_
        refine OW.q rfl rfl (yq_add rfl (by (conv => lhs; whnf) <;> rfl) (by (conv => lhs; whnf) <;> rfl) (by omega)) ?_
        refine OW.q rfl rfl (yq_assign rfl (by (conv => lhs; whnf) <;> rfl)) ?_
        refine OW.nil ?_
        refine ⟨j + 1, ⟨a', cap', Has.mk ⟨(by (conv => lhs; whnf) <;> rfl), (by (conv => lhs; whnf) <;> rfl), by rw [leafT_succ l j (by omega), List.length_append, hb_length]; exact (by (conv => lhs; whnf) <;> rfl), (by (conv => lhs; whnf) <;> rfl), trivial⟩, by omega, ?_⟩, by omega⟩
        rw [leafT_succ l j (by omega), List.length_append, bc_app, hb_length]; rfl
      · have hj5 : j = 512 := by omega
        subst hj5
        refine CW.exit ?_
        refine then_exit ?_
        refine then_exit ?_
        refine blockQ_hit ?_
        refine hK6 _ _ ?_
        refine CW.seq_k fun K11 hK11 => ?_
        refine CW.know _ (know_row (k := (leafT l 512).length) (by repeat' first | exact List.mem_cons_self .. | apply List.mem_cons_of_mem) (by omega)) ?_
        rintro ⟨g, rfl⟩
        refine CW.region ?_
        refine OW.q rfl rfl (yq_move rfl (by (conv => lhs; whnf) <;> rfl)) ?_
        refine OW.q rfl rfl (yq_conv_bytes (l := leafT l 512) rfl ts92 Tryd.underlying5 tt9 (by (conv => lhs; whnf) <;> rfl) rfl (row_cells (by repeat' first | exact List.mem_cons_self .. | apply List.mem_cons_of_mem))) ?_
        refine OW.q rfl rfl (yq_call rfl rfl (.cons (by (conv => lhs; whnf) <;> rfl) .nil) en102 (fun w hw => refsum_calls _ w (by omega))) ?_
        refine OW.storeH rfl rfl rfl (by (conv => lhs; whnf) <;> rfl) (by (conv => lhs; whnf) <;> rfl) ti25 (by repeat' first | exact Put.head | apply Put.tail) (hc_length _) ?_
        refine OW.nil ?_
        refine hK11 _ _ ?_
        refine CW.ret ?_
        -- ret (ret)
        rw [leafT_all l hl]
        exact fin1 (Or.inr rfl) rfl (rv_hash (by decide) (by (conv => lhs; whnf) <;> rfl) ti25 (by repeat' first | exact List.mem_cons_self .. | apply List.mem_cons_of_mem)) (fun w hw => ⟨rfl, hw.sub (List.nil_sublist _)⟩)
end Go.Proofs.YtahdekllphehkaaDoor
namespace Go.Proofs.YtahdekllphehkaaDoor
open Go.WL Go.Spec
end Go.Proofs.YtahdekllphehkaaDoor
namespace Go.Proofs.YtahdekllphehkaaDoor
open Go.WL Go.Spec
theorem cut32_eq (s : Bytes) (i : Nat) : cut32 s i = (s.drop (32 * i)).take 32 := by unfold cut32; rfl
theorem cut32_length (s : Bytes) (i : Nat) (h : 32 * i + 32 ≤ s.length) : (cut32 s i).length = 32 := by rw [cut32_eq, List.length_take, List.length_drop]; omega
theorem recK_hit (s d : Bytes) (j : Nat) : recK s d (2 * j + bitB d j) = shownL (cut32 s j) := by
  have := bitB_lt d j
  unfold recK
  rw [show (2 * j + bitB d j) / 2 = j by omega, if_pos (by omega)]
theorem recK_miss (s d : Bytes) (j : Nat) : recK s d (2 * j + 1 - bitB d j) = toH (cut32 s (256 + j)) := by
  have := bitB_lt d j
  unfold recK
  rw [show (2 * j + 1 - bitB d j) / 2 = j by omega, if_neg (by omega)]
theorem recL_fill (s d : Bytes) : fillL (recK s d) 512 512 = recL s d := by rw [fillL_all]; unfold recL; rfl
theorem fill_two (f : Nat → Hash) (n j b : Nat) (hb : b < 2) (hj : 2 * j + 1 < n) : ((fillL f n (2 * j)).set (2 * j + b) (f (2 * j + b))).set (2 * j + 1 - b) (f (2 * j + 1 - b)) = fillL f n (2 * (j + 1)) := by
  have e1 := fillL_set f n (2 * j) (by omega)
  have e2 := fillL_set f n (2 * j + 1) (by omega)
  rcases (by omega : b = 0 ∨ b = 1) with rfl | rfl
  · rw [Nat.add_zero, e1, Nat.sub_zero, e2]; rfl
  · rw [show 2 * j + 1 - 1 = 2 * j by omega, List.set_comm _ _ (by omega), e1, e2]; rfl
def recV (s d : Bytes) : Value := if s.length ≠ 16384 then .tuple #[HV zeroHash, .int .i64 10] else .tuple #[HV (keyLeaf (recL s d)), .int .i64 0]
theorem recV_bad {s d : Bytes} (h : s.length ≠ 16384) : recV s d = .tuple #[HV zeroHash, .int .i64 10] := if_pos h
theorem recV_ok {s d : Bytes} (h : s.length = 16384) : recV s d = .tuple #[HV (keyLeaf (recL s d)), .int .i64 0] := if_neg (by omega)
theorem unhash_at {f : Nat} {s : Bytes} {w : World} (i : Nat) (t : Bytes) (ht : t = s.drop (32 * i)) (h : 32 * i + 32 ≤ s.length)
    (hc' : Calls Tryd.prog f #[.string (bs t)] w fun e w' => e = .returned (unhashV t) ∧ Cl w [] [] w') :
    Calls Tryd.prog f #[.string (bs t)] w fun e w' => e = .returned (.tuple #[HV (toH (cut32 s i)), .string (bs (t.drop 32)), .bool true]) ∧ Cl w [] [] w' := by
  rw [unhashV_long (by rw [ht, List.length_drop]; omega)] at hc'
  rwa [cut32_eq, ← ht]
theorem hsFull {w : World} {b k : Nat} {T : TypeId} {fz : Nat × Nat} {l : List Hash} (hk : l.length = k) (h : (Ent.blk b (l.flatMap hc) T fz).ok w) : HsAt w (.slice (some ⟨b, 0, none⟩) k k) l := by
  subst hk
  exact HsAt.blk (Nat.le_refl _) (fun j u hu => hu) h
set_option maxRecDepth 100000 in
set_option maxHeartbeats 1000000 in
theorem recover_calls (s : Bytes) (h : Hash) (w : World) (hs : s.length ≤ 9223372036854775807) (hg : GL w) :
    Calls Tryd.prog 56 #[.string (bs s), HV h] w fun e w' => e = .returned (recV s (hb h)) ∧ Cl w [] [] w' := by
  refine calls_of_CW (L := []) Tryd.func56 rfl (Nat.le_of_ble_eq_true rfl) (Cl.refl _) ?_
  refine CW.seq_k fun K1 hK1 => ?_
  refine CW.region ?_
  refine OW.box rfl rfl rfl (by (conv => lhs; whnf) <;> rfl) (by rfl) (fun b3 => ?_)
  refine OW.alloc rfl rfl rfl tz25 (fun b4 => ?_)
  refine OW.q rfl rfl (yq_assign rfl (by (conv => lhs; whnf) <;> rfl)) ?_
  refine OW.nil ?_
  refine hK1 _ _ ?_
  refine CW.seq_k fun K2 hK2 => ?_
  refine CW.seq_k fun K3 hK3 => ?_
  refine CW.region ?_
  refine OW.q rfl rfl (yq_move rfl (by (conv => lhs; whnf) <;> rfl)) ?_
  refine OW.q rfl rfl (yq_len_bs rfl tt9 (by (conv => lhs; whnf) <;> rfl)) ?_
  refine OW.q rfl rfl (yq_neq rfl (by (conv => lhs; whnf) <;> rfl) (by (conv => lhs; whnf) <;> rfl)) ?_
  refine OW.nil ?_
  refine hK3 _ _ ?_
  refine CW.cond_dec (by (conv => lhs; whnf) <;> rfl) (fun hc0 => ?_) (fun hc0 => ?_)
  · refine CW.seq_k fun K4 hK4 => ?_
    refine CW.region ?_
    refine OW.q rfl rfl (yq_build (parts := []) (pv := []) (cs := hc zeroHash) rfl rfl (by kernel_rfl)) ?_
    refine OW.storeH rfl rfl rfl (by (conv => lhs; whnf) <;> rfl) (by (conv => lhs; whnf) <;> rfl) ti25 (by repeat' first | exact Put.head | apply Put.tail) (hc_length _) ?_
    refine OW.q rfl rfl (yq_assign rfl (by (conv => lhs; whnf) <;> rfl)) ?_
    refine OW.nil ?_
    refine hK4 _ _ ?_
    refine CW.ret ?_
    refine then_ret ?_
    -- ret (ret)
    rw [recV_bad (by omega)]
    exact fin2 (Or.inr rfl) rfl (rv_hash (by decide) (by (conv => lhs; whnf) <;> rfl) ti25 (by repeat' first | exact List.mem_cons_self .. | apply List.mem_cons_of_mem)) ⟨by decide, (by (conv => lhs; whnf) <;> rfl)⟩ (fun w hw => ⟨rfl, hw.sub (List.nil_sublist _)⟩)
  · have hl : s.length = 16384 := by omega
    refine CW.skip ?_
    refine hK2 _ _ ?_
    refine CW.seq_k fun K5 hK5 => ?_
    refine CW.region ?_
    refine OW.q rfl rfl (yq_loadH rfl (by (conv => lhs; whnf) <;> rfl) ti25 (by repeat' first | exact List.mem_cons_self .. | apply List.mem_cons_of_mem)) ?_
    refine OW.q rfl rfl (yq_call rfl rfl (.cons (by (conv => lhs; whnf) <;> rfl) .nil) en103 (fun w hw => hash_calls _ w)) ?_
    refine OW.q rfl rfl (yq_assign rfl (by (conv => lhs; whnf) <;> rfl)) ?_
    refine OW.nil ?_
    refine hK5 _ _ ?_
    refine CW.seq_k fun K6 hK6 => ?_
    refine CW.region ?_
    refine OW.make (k := 512) rfl rfl rfl (by (conv => lhs; whnf) <;> rfl) (by (conv => lhs; whnf) <;> rfl) ts22 ti25 tz25 (by decide) (by decide) (by decide) (made_hash 512) (fun bm => ?_)
    refine OW.q rfl rfl (yq_assign rfl (by (conv => lhs; whnf) <;> rfl)) ?_
    rw [← fillL_zero (recK s (hb h)) 512]
    refine OW.nil ?_
    refine hK6 _ _ ?_
    refine CW.seq_k fun K7 hK7 => ?_
    refine CW.seq_k fun K8 hK8 => ?_
    refine CW.region ?_
    refine OW.q rfl rfl (yq_move rfl (by (conv => lhs; whnf) <;> rfl)) ?_
    refine OW.nil ?_
    refine hK8 _ _ ?_
    refine CW.block ?_
    refine CW.loop (σ := Nat) (fun j ρ L => Has ρ [(0, .string (bs s)), (4, .pointer (some ⟨b4, 0, none⟩)), (6, .string (bs (hb h))), (7, .slice (some ⟨bm, 0, none⟩) 512 512), (19, .int .i64 (j : Int))] ∧ j ≤ 256 ∧ L = [.blk bm ((fillL (recK s (hb h)) 512 (2 * j)).flatMap hc) 25 (0, 0), .blk b4 (hc zeroHash) 25 (0, 0), .blk b3 (hc h) 25 (0, 0)]) (fun j => 256 - j) (0) ?_ ?_
    · exact ⟨Has.mk ⟨(by (conv => lhs; whnf) <;> rfl), (by (conv => lhs; whnf) <;> rfl), (by (conv => lhs; whnf) <;> rfl), (by (conv => lhs; whnf) <;> rfl), (by (conv => lhs; whnf) <;> rfl), trivial⟩, by omega, rfl⟩
    · rintro j _ _ ⟨⟨ρ', rfl⟩, hj, rfl⟩
      have hbl := bitB_lt (hb h) j
      refine CW.seq_k fun K9 hK9 => ?_
      refine CW.region ?_
      refine OW.q rfl rfl (yq_lss rfl (by (conv => lhs; whnf) <;> rfl) (by (conv => lhs; whnf) <;> rfl)) ?_
      refine OW.nil ?_
      refine hK9 _ _ ?_
      refine CW.seq_k fun K10 hK10 => ?_
      refine CW.cond_dec (by (conv => lhs; whnf) <;> rfl) (fun hc2 => ?_) (fun hc2 => ?_)
      · have hlt : j < 256 := by omega
        have hcl := cut32_length s j (by omega)
        refine CW.skip ?_
        refine hK10 _ _ ?_
        refine CW.seq_k fun K11 hK11 => ?_
        refine CW.block ?_
        refine CW.seq_k fun K12 hK12 => ?_
        refine CW.region ?_
        refine OW.q rfl rfl (yq_move rfl (by (conv => lhs; whnf) <;> rfl)) ?_
        refine OW.q rfl rfl (yq_assign rfl (by (conv => lhs; whnf) <;> rfl)) ?_
        refine OW.nil ?_
        refine hK12 _ _ ?_
        refine CW.seq_k fun K13 hK13 => ?_
        refine CW.region ?_
        refine OW.q rfl rfl (yq_move rfl (by (conv => lhs; whnf) <;> rfl)) ?_
        refine OW.q rfl rfl (yq_move rfl (by (conv => lhs; whnf) <;> rfl)) ?_
        refine OW.q rfl rfl (yq_call rfl rfl (.cons (by (conv => lhs; whnf) <;> rfl) ( .cons (by (conv => lhs; whnf) <;> rfl) .nil)) en121 (fun w hw => bit_calls (hb h) j w (by rw [hb_length]; omega) (by omega))) ?_
        refine OW.q rfl rfl (yq_assign rfl (by (conv => lhs; whnf) <;> rfl)) ?_
        refine OW.nil ?_
        refine hK13 _ _ ?_
        refine CW.seq_k fun K14 hK14 => ?_
        refine CW.draw mixed (by kernel_rfl) ?_
        refine QW.q rfl rfl (yq_move rfl (by (conv => lhs; whnf) <;> rfl)) ?_
        refine QW.q rfl rfl (yq_move rfl (by (conv => lhs; whnf) <;> rfl)) ?_
        refine QW.q rfl rfl (yq_mul rfl (by (conv => lhs; whnf) <;> rfl) (by (conv => lhs; whnf) <;> rfl) (by omega)) ?_
        refine QW.q rfl rfl (yq_move rfl (by (conv => lhs; whnf) <;> rfl)) ?_
        refine QW.q rfl rfl (yq_add rfl (by (conv => lhs; whnf) <;> rfl) (by (conv => lhs; whnf) <;> rfl) (by omega)) ?_
        refine QW.q rfl rfl (yq_mul rfl (by (conv => lhs; whnf) <;> rfl) (by (conv => lhs; whnf) <;> rfl) (by omega)) ?_
        refine QW.q rfl rfl ((yq_slice_bs (l := 32 * j) (h := 32 * j + 32) rfl (by (conv => lhs; whnf) <;> rfl) tt9 (by exact ⟨_, _, (by (conv => lhs; whnf) <;> rfl), by omega, by omega⟩) (by exact ⟨_, _, (by (conv => lhs; whnf) <;> rfl), by omega, by omega⟩) (by omega) (by omega)).to (v' := .string (bs (cut32 s j))) (by rw [cut32_eq, Nat.add_sub_cancel_left])) ?_
        refine QW.q rfl rfl (yq_move rfl (by (conv => lhs; whnf) <;> rfl)) ?_
        refine QW.q rfl rfl (yq_move rfl (by (conv => lhs; whnf) <;> rfl)) ?_
        refine QW.q rfl rfl (yq_add rfl (by (conv => lhs; whnf) <;> rfl) (by (conv => lhs; whnf) <;> rfl) (by omega)) ?_
        refine QW.q rfl rfl (yq_mul rfl (by (conv => lhs; whnf) <;> rfl) (by (conv => lhs; whnf) <;> rfl) (by omega)) ?_
        refine QW.q rfl rfl ((yq_slice_bs_from (l := 32 * (256 + j)) rfl (by (conv => lhs; whnf) <;> rfl) tt9 ⟨_, _, (by (conv => lhs; whnf) <;> rfl), by omega, by omega⟩ (by omega))) ?_
        refine QW.q rfl rfl (yq_assign rfl (by (conv => lhs; whnf) <;> rfl)) ?_
        refine QW.q rfl rfl (yq_assign rfl (by (conv => lhs; whnf) <;> rfl)) ?_
        refine QW.nil ?_
        refine hK14 _ _ ?_
        refine CW.seq_k fun K15 hK15 => ?_
        refine CW.region ?_
        refine OW.q rfl rfl (yq_move rfl (by (conv => lhs; whnf) <;> rfl)) ?_
        refine OW.q rfl rfl (yq_move rfl (by (conv => lhs; whnf) <;> rfl)) ?_
        refine OW.q rfl rfl (yq_mul rfl (by (conv => lhs; whnf) <;> rfl) (by (conv => lhs; whnf) <;> rfl) (by omega)) ?_
        refine OW.q rfl rfl (yq_move rfl (by (conv => lhs; whnf) <;> rfl)) ?_
        refine OW.q rfl rfl (yq_add rfl (by (conv => lhs; whnf) <;> rfl) (by (conv => lhs; whnf) <;> rfl) (by omega)) ?_
        refine OW.q rfl rfl (yq_move rfl (by (conv => lhs; whnf) <;> rfl)) ?_
        refine OW.q rfl rfl (yq_call rfl rfl (.cons (by (conv => lhs; whnf) <;> rfl) .nil) en128 (fun w hw => shown_calls (cut32 s j) w (by omega) (Cl_gl0 hw hg))) ?_
        refine OW.q rfl rfl (yq_index_slice rfl (by (conv => lhs; whnf) <;> rfl) (by (conv => lhs; whnf) <;> rfl) ts22 ti25 (by omega) (by omega)) ?_
        refine OW.store' rfl rfl rfl (by (conv => lhs; whnf) <;> rfl) (by (conv => lhs; whnf) <;> rfl) (vs := hc (shownL (cut32 s j))) (by rw [hc_length]; exact ti25) rfl (hc_one _) (by repeat' first | exact Put.head | apply Put.tail) (cs' := ((fillL (recK s (hb h)) 512 (2 * j)).set (2 * j + bitB (hb h) j) (shownL (cut32 s j))).flatMap hc) (by rw [Nat.zero_add, show (2 * (j : Int) + (bitB (hb h) j : Int)).toNat = 2 * j + bitB (hb h) j by omega]; exact spl_flat (by rw [fillL_length]; omega) _) (by rw [hc_length, flat_length, fillL_length]; omega) ?_
        refine OW.nil ?_
        refine hK15 _ _ ?_
        refine CW.region ?_
        refine OW.q rfl rfl (yq_move rfl (by (conv => lhs; whnf) <;> rfl)) ?_
        refine OW.q rfl rfl (yq_move rfl (by (conv => lhs; whnf) <;> rfl)) ?_
        refine OW.q rfl rfl (yq_mul rfl (by (conv => lhs; whnf) <;> rfl) (by (conv => lhs; whnf) <;> rfl) (by omega)) ?_
        refine OW.q rfl rfl (yq_add rfl (by (conv => lhs; whnf) <;> rfl) (by (conv => lhs; whnf) <;> rfl) (by omega)) ?_
        refine OW.q rfl rfl (yq_move rfl (by (conv => lhs; whnf) <;> rfl)) ?_
        refine OW.q rfl rfl (yq_sub rfl (by (conv => lhs; whnf) <;> rfl) (by (conv => lhs; whnf) <;> rfl) (by omega)) ?_
        refine OW.q rfl rfl (yq_move rfl (by (conv => lhs; whnf) <;> rfl)) ?_
        refine OW.q rfl rfl (yq_call rfl rfl (.cons (by (conv => lhs; whnf) <;> rfl) .nil) en111 (fun w hw => unhash_at (s := s) (256 + j) _ rfl (by omega) (unhash_calls _ w (by rw [List.length_drop]; omega)))) ?_
        refine OW.q rfl rfl (yq_move rfl (by (conv => lhs; whnf) <;> rfl)) ?_
        refine OW.q rfl rfl (yq_extract rfl (by (conv => lhs; whnf) <;> rfl) rfl) ?_
        refine OW.q rfl rfl (yq_extract rfl (by (conv => lhs; whnf) <;> rfl) rfl) ?_
        refine OW.q rfl rfl (yq_extract rfl (by (conv => lhs; whnf) <;> rfl) rfl) ?_
        refine OW.q rfl rfl (yq_index_slice rfl (by (conv => lhs; whnf) <;> rfl) (by (conv => lhs; whnf) <;> rfl) ts22 ti25 (by omega) (by omega)) ?_
        refine OW.store' rfl rfl rfl (by (conv => lhs; whnf) <;> rfl) (by (conv => lhs; whnf) <;> rfl) (vs := hc (toH (cut32 s (256 + j)))) (by rw [hc_length]; exact ti25) rfl (hc_one _) (by repeat' first | exact Put.head | apply Put.tail) (cs' := (((fillL (recK s (hb h)) 512 (2 * j)).set (2 * j + bitB (hb h) j) (shownL (cut32 s j))).set (2 * j + 1 - bitB (hb h) j) (toH (cut32 s (256 + j)))).flatMap hc) (by rw [Nat.zero_add, show (2 * (j : Int) + 1 - (bitB (hb h) j : Int)).toNat = 2 * j + 1 - bitB (hb h) j by omega]; exact spl_flat (by rw [List.length_set, fillL_length]; omega) _) (by rw [hc_length, flat_length, List.length_set, fillL_length]; omega) ?_
        refine OW.nil ?_
        refine hK11 _ _ ?_
        refine CW.region ?_
        refine OW.q rfl rfl (yq_add rfl (by (conv => lhs; whnf) <;> rfl) (by (conv => lhs; whnf) <;> rfl) (by omega)) ?_
        refine OW.q rfl rfl (yq_move rfl (by (conv => lhs; whnf) <;> rfl)) ?_
        refine OW.nil ?_
        refine ⟨j + 1, ⟨Has.mk ⟨(by (conv => lhs; whnf) <;> rfl), (by (conv => lhs; whnf) <;> rfl), (by (conv => lhs; whnf) <;> rfl), (by (conv => lhs; whnf) <;> rfl), (by (conv => lhs; whnf) <;> rfl), trivial⟩, by omega, ?_⟩, by omega⟩
        rw [← fill_two _ _ _ _ hbl (by omega), recK_hit, recK_miss]
      · have hj5 : j = 256 := by omega
        subst hj5
        refine CW.exit ?_
        refine then_exit ?_
        refine then_exit ?_
        refine blockQ_hit ?_
        refine hK7 _ _ ?_
        refine CW.seq_k fun K16 hK16 => ?_
        rw [show 2 * 256 = 512 from rfl, recL_fill]
        refine CW.region ?_
        refine OW.q rfl rfl (yq_move rfl (by (conv => lhs; whnf) <;> rfl)) ?_
        refine OW.q rfl rfl (yq_call rfl rfl (.cons (by (conv => lhs; whnf) <;> rfl) .nil) en60 (fun w hw => keyleaf_calls _ (recL s (hb h)) w (hsFull (recL_length _ _) (hw.own (.blk bm ((recL s (hb h)).flatMap hc) 25 (0, 0)) (by repeat' first | exact List.mem_cons_self .. | apply List.mem_cons_of_mem))) (Cl_gl0 hw hg))) ?_
        refine OW.storeH rfl rfl rfl (by (conv => lhs; whnf) <;> rfl) (by (conv => lhs; whnf) <;> rfl) ti25 (by repeat' first | exact Put.head | apply Put.tail) (hc_length _) ?_
        refine OW.q rfl rfl (yq_assign rfl (by (conv => lhs; whnf) <;> rfl)) ?_
        refine OW.nil ?_
        refine hK16 _ _ ?_
        refine CW.ret ?_
        -- ret (ret)
        rw [recV_ok hl]
        exact fin2 (Or.inr rfl) rfl (rv_hash (by decide) (by (conv => lhs; whnf) <;> rfl) ti25 (by repeat' first | exact List.mem_cons_self .. | apply List.mem_cons_of_mem)) ⟨by decide, (by (conv => lhs; whnf) <;> rfl)⟩ (fun w hw => ⟨rfl, hw.sub (List.nil_sublist _)⟩)
theorem shown_eq (b : Bytes) : sha ([3] ++ b) = shownL b := (shownL_eq b).symm
set_option maxRecDepth 100000 in
set_option maxHeartbeats 1000000 in
theorem refrecover_calls (s : Bytes) (h : Hash) (w : World) (hs : s.length ≤ 9223372036854775807) :
    Calls Tryd.prog 57 #[.string (bs s), HV h] w fun e w' => e = .returned (recV s (hb h)) ∧ Cl w [] [] w' := by
  refine calls_of_CW (L := []) Tryd.func57 rfl (Nat.le_of_ble_eq_true rfl) (Cl.refl _) ?_
  refine CW.seq_k fun K1 hK1 => ?_
  refine CW.region ?_
  refine OW.box rfl rfl rfl (by (conv => lhs; whnf) <;> rfl) (by rfl) (fun b3 => ?_)
  refine OW.alloc rfl rfl rfl tz25 (fun b4 => ?_)
  refine OW.q rfl rfl (yq_assign rfl (by (conv => lhs; whnf) <;> rfl)) ?_
  refine OW.nil ?_
  refine hK1 _ _ ?_
  refine CW.seq_k fun K2 hK2 => ?_
  refine CW.seq_k fun K3 hK3 => ?_
  refine CW.region ?_
  refine OW.q rfl rfl (yq_move rfl (by (conv => lhs; whnf) <;> rfl)) ?_
  refine OW.q rfl rfl (yq_len_bs rfl tt9 (by (conv => lhs; whnf) <;> rfl)) ?_
  refine OW.q rfl rfl (yq_neq rfl (by (conv => lhs; whnf) <;> rfl) (by (conv => lhs; whnf) <;> rfl)) ?_
  refine OW.nil ?_
  refine hK3 _ _ ?_
  refine CW.cond_dec (by (conv => lhs; whnf) <;> rfl) (fun hc0 => ?_) (fun hc0 => ?_)
  · refine CW.seq_k fun K4 hK4 => ?_
    refine CW.region ?_
    refine OW.q rfl rfl (yq_build (parts := []) (pv := []) (cs := hc zeroHash) rfl rfl (by kernel_rfl)) ?_
    refine OW.storeH rfl rfl rfl (by (conv => lhs; whnf) <;> rfl) (by (conv => lhs; whnf) <;> rfl) ti25 (by repeat' first | exact Put.head | apply Put.tail) (hc_length _) ?_
    refine OW.q rfl rfl (yq_assign rfl (by (conv => lhs; whnf) <;> rfl)) ?_
    refine OW.nil ?_
    refine hK4 _ _ ?_
    refine CW.ret ?_
    refine then_ret ?_
    -- ret (ret)
    rw [recV_bad (by omega)]
    exact fin2 (Or.inr rfl) rfl (rv_hash (by decide) (by (conv => lhs; whnf) <;> rfl) ti25 (by repeat' first | exact List.mem_cons_self .. | apply List.mem_cons_of_mem)) ⟨by decide, (by (conv => lhs; whnf) <;> rfl)⟩ (fun w hw => ⟨rfl, hw.sub (List.nil_sublist _)⟩)
  · have hl : s.length = 16384 := by omega
    refine CW.skip ?_
    refine hK2 _ _ ?_
    refine CW.seq_k fun K5 hK5 => ?_
    refine CW.region ?_
    refine OW.make (k := 512) rfl rfl rfl (by (conv => lhs; whnf) <;> rfl) (by (conv => lhs; whnf) <;> rfl) ts22 ti25 tz25 (by decide) (by decide) (by decide) (made_hash 512) (fun bm => ?_)
    refine OW.q rfl rfl (yq_assign rfl (by (conv => lhs; whnf) <;> rfl)) ?_
    rw [← fillL_zero (recK s (hb h)) 512]
    refine OW.nil ?_
    refine hK5 _ _ ?_
    refine CW.seq_k fun K6 hK6 => ?_
    refine CW.seq_k fun K7 hK7 => ?_
    refine CW.region ?_
    refine OW.q rfl rfl (yq_assign rfl (by (conv => lhs; whnf) <;> rfl)) ?_
    refine OW.nil ?_
    refine hK7 _ _ ?_
    refine CW.block ?_
    refine CW.loop (σ := Nat) (fun j ρ L => Has ρ [(0, .string (bs s)), (3, .pointer (some ⟨b3, 0, none⟩)), (4, .pointer (some ⟨b4, 0, none⟩)), (6, .slice (some ⟨bm, 0, none⟩) 512 512), (7, .int .i64 (j : Int))] ∧ j ≤ 256 ∧ L = [.blk bm ((fillL (recK s (hb h)) 512 (2 * j)).flatMap hc) 25 (0, 0), .blk b4 (hc zeroHash) 25 (0, 0), .blk b3 (hc h) 25 (0, 0)]) (fun j => 256 - j) (0) ?_ ?_
    · exact ⟨Has.mk ⟨(by (conv => lhs; whnf) <;> rfl), (by (conv => lhs; whnf) <;> rfl), (by (conv => lhs; whnf) <;> rfl), (by (conv => lhs; whnf) <;> rfl), (by (conv => lhs; whnf) <;> rfl), trivial⟩, by omega, rfl⟩
    · rintro j _ _ ⟨⟨ρ', rfl⟩, hj, rfl⟩
      have hbl := bitB_lt (hb h) j
      refine CW.seq_k fun K8 hK8 => ?_
      refine CW.seq_k fun K9 hK9 => ?_
      refine CW.region ?_
      refine OW.q rfl rfl (yq_move rfl (by (conv => lhs; whnf) <;> rfl)) ?_
      refine OW.q rfl rfl (yq_lss rfl (by (conv => lhs; whnf) <;> rfl) (by (conv => lhs; whnf) <;> rfl)) ?_
      refine OW.nil ?_
      refine hK9 _ _ ?_
      refine CW.cond_dec (by (conv => lhs; whnf) <;> rfl) (fun hc2 => ?_) (fun hc2 => ?_)
      · have hlt : j < 256 := by omega
        have hcl := cut32_length s j (by omega)
        refine CW.skip ?_
        refine hK8 _ _ ?_
        refine CW.seq_k fun K10 hK10 => ?_
        refine CW.block ?_
        refine CW.seq_k fun K11 hK11 => ?_
        refine CW.region ?_
        refine OW.q rfl rfl (yq_slice_arr_all (k := 31) rfl (by (conv => lhs; whnf) <;> rfl) ta25 ti5) ?_
        refine OW.q rfl rfl (yq_conv_bytes (l := hb h) rfl ts92 Tryd.underlying5 tt9 (by (conv => lhs; whnf) <;> rfl) (hb_length _) (blk_cells (cs := bc (hb h)) (by repeat' first | exact List.mem_cons_self .. | apply List.mem_cons_of_mem))) ?_
        refine OW.q rfl rfl (yq_move rfl (by (conv => lhs; whnf) <;> rfl)) ?_
        refine OW.q rfl rfl (yq_call rfl rfl (.cons (by (conv => lhs; whnf) <;> rfl) ( .cons (by (conv => lhs; whnf) <;> rfl) .nil)) en124 (fun w hw => refbit_calls (hb h) j w (by rw [hb_length]; omega) (by omega))) ?_
        refine OW.q rfl rfl (yq_assign rfl (by (conv => lhs; whnf) <;> rfl)) ?_
        refine OW.nil ?_
        refine hK11 _ _ ?_
        refine CW.seq_k fun K12 hK12 => ?_
        refine CW.region ?_
        refine OW.q rfl rfl (yq_move rfl (by (conv => lhs; whnf) <;> rfl)) ?_
        refine OW.q rfl rfl (yq_move rfl (by (conv => lhs; whnf) <;> rfl)) ?_
        refine OW.q rfl rfl (yq_mul rfl (by (conv => lhs; whnf) <;> rfl) (by (conv => lhs; whnf) <;> rfl) (by omega)) ?_
        refine OW.q rfl rfl (yq_move rfl (by (conv => lhs; whnf) <;> rfl)) ?_
        refine OW.q rfl rfl (yq_add rfl (by (conv => lhs; whnf) <;> rfl) (by (conv => lhs; whnf) <;> rfl) (by omega)) ?_
        refine OW.q rfl rfl (yq_move rfl (by (conv => lhs; whnf) <;> rfl)) ?_
        refine OW.q rfl rfl (yq_move rfl (by (conv => lhs; whnf) <;> rfl)) ?_
        refine OW.q rfl rfl (yq_mul rfl (by (conv => lhs; whnf) <;> rfl) (by (conv => lhs; whnf) <;> rfl) (by omega)) ?_
        refine OW.q rfl rfl (yq_move rfl (by (conv => lhs; whnf) <;> rfl)) ?_
        refine OW.q rfl rfl (yq_mul rfl (by (conv => lhs; whnf) <;> rfl) (by (conv => lhs; whnf) <;> rfl) (by omega)) ?_
        refine OW.q rfl rfl (yq_add rfl (by (conv => lhs; whnf) <;> rfl) (by (conv => lhs; whnf) <;> rfl) (by omega)) ?_
        refine OW.q rfl rfl ((yq_slice_bs (l := 32 * j) (h := 32 * j + 32) rfl (by (conv => lhs; whnf) <;> rfl) tt9 (by exact ⟨_, _, (by (conv => lhs; whnf) <;> rfl), by omega, by omega⟩) (by exact ⟨_, _, (by (conv => lhs; whnf) <;> rfl), by omega, by omega⟩) (by omega) (by omega)).to (v' := .string (bs (cut32 s j))) (by rw [cut32_eq, Nat.add_sub_cancel_left])) ?_
        refine OW.q rfl rfl (yq_add_bs (a := [3]) rfl (by (conv => lhs; whnf) <;> rfl) (by (conv => lhs; whnf) <;> rfl) (by simp only [List.length_cons, List.length_nil]; omega)) ?_
        refine OW.q rfl rfl (yq_call rfl rfl (.cons (by (conv => lhs; whnf) <;> rfl) .nil) en102 (fun w hw => (shown_eq (cut32 s j)) ▸ refsum_calls ([3] ++ cut32 s j) w (by simp; omega))) ?_
        refine OW.q rfl rfl (yq_index_slice rfl (by (conv => lhs; whnf) <;> rfl) (by (conv => lhs; whnf) <;> rfl) ts22 ti25 (by omega) (by omega)) ?_
        refine OW.store' rfl rfl rfl (by (conv => lhs; whnf) <;> rfl) (by (conv => lhs; whnf) <;> rfl) (vs := hc (shownL (cut32 s j))) (by rw [hc_length]; exact ti25) rfl (hc_one _) (by repeat' first | exact Put.head | apply Put.tail) (cs' := ((fillL (recK s (hb h)) 512 (2 * j)).set (2 * j + bitB (hb h) j) (shownL (cut32 s j))).flatMap hc) (by rw [Nat.zero_add, show (2 * (j : Int) + (bitB (hb h) j : Int)).toNat = 2 * j + bitB (hb h) j by omega]; exact spl_flat (by rw [fillL_length]; omega) _) (by rw [hc_length, flat_length, fillL_length]; omega) ?_
        refine OW.nil ?_
        refine hK12 _ _ ?_
        refine CW.seq_k fun K13 hK13 => ?_
        refine CW.region ?_
        refine OW.q rfl rfl (yq_move rfl (by (conv => lhs; whnf) <;> rfl)) ?_
        refine OW.q rfl rfl (yq_move rfl (by (conv => lhs; whnf) <;> rfl)) ?_
        refine OW.q rfl rfl (yq_mul rfl (by (conv => lhs; whnf) <;> rfl) (by (conv => lhs; whnf) <;> rfl) (by omega)) ?_
        refine OW.q rfl rfl (yq_add rfl (by (conv => lhs; whnf) <;> rfl) (by (conv => lhs; whnf) <;> rfl) (by omega)) ?_
        refine OW.q rfl rfl ((yq_slice_bs_from (l := 32 * (256 + j)) rfl (by (conv => lhs; whnf) <;> rfl) tt9 ⟨_, _, (by (conv => lhs; whnf) <;> rfl), by omega, by omega⟩ (by omega))) ?_
        refine OW.q rfl rfl (yq_call rfl rfl (.cons (by (conv => lhs; whnf) <;> rfl) .nil) en129 (fun w hw => unhash_at (s := s) (256 + j) _ rfl (by omega) (refunhash_calls _ w (by rw [List.length_drop]; omega)))) ?_
        refine OW.q rfl rfl (yq_move rfl (by (conv => lhs; whnf) <;> rfl)) ?_
        refine OW.q rfl rfl (yq_extract rfl (by (conv => lhs; whnf) <;> rfl) rfl) ?_
        refine OW.q rfl rfl (yq_extract rfl (by (conv => lhs; whnf) <;> rfl) rfl) ?_
        refine OW.q rfl rfl (yq_extract rfl (by (conv => lhs; whnf) <;> rfl) rfl) ?_
        refine OW.alloc rfl rfl rfl tz25 (fun b9 => ?_)
        refine OW.storeH rfl rfl rfl (by (conv => lhs; whnf) <;> rfl) (by (conv => lhs; whnf) <;> rfl) ti25 (by repeat' first | exact Put.head | apply Put.tail) (hc_length _) ?_
        refine OW.q rfl rfl (yq_assign rfl (by (conv => lhs; whnf) <;> rfl)) ?_
        refine OW.q rfl rfl (yq_assign rfl (by (conv => lhs; whnf) <;> rfl)) ?_
        refine OW.nil ?_
        refine hK13 _ _ ?_
        refine CW.region ?_
        refine OW.q rfl rfl (yq_move rfl (by (conv => lhs; whnf) <;> rfl)) ?_
        refine OW.q rfl rfl (yq_move rfl (by (conv => lhs; whnf) <;> rfl)) ?_
        refine OW.q rfl rfl (yq_mul rfl (by (conv => lhs; whnf) <;> rfl) (by (conv => lhs; whnf) <;> rfl) (by omega)) ?_
        refine OW.q rfl rfl (yq_add rfl (by (conv => lhs; whnf) <;> rfl) (by (conv => lhs; whnf) <;> rfl) (by omega)) ?_
        refine OW.q rfl rfl (yq_move rfl (by (conv => lhs; whnf) <;> rfl)) ?_
        refine OW.q rfl rfl (yq_sub rfl (by (conv => lhs; whnf) <;> rfl) (by (conv => lhs; whnf) <;> rfl) (by omega)) ?_
        refine OW.q rfl rfl (yq_loadH rfl (by (conv => lhs; whnf) <;> rfl) ti25 (by repeat' first | exact List.mem_cons_self .. | apply List.mem_cons_of_mem)) ?_
        refine OW.q rfl rfl (yq_index_slice rfl (by (conv => lhs; whnf) <;> rfl) (by (conv => lhs; whnf) <;> rfl) ts22 ti25 (by omega) (by omega)) ?_
        refine OW.store' rfl rfl rfl (by (conv => lhs; whnf) <;> rfl) (by (conv => lhs; whnf) <;> rfl) (vs := hc (toH (cut32 s (256 + j)))) (by rw [hc_length]; exact ti25) rfl (hc_one _) (by repeat' first | exact Put.head | apply Put.tail) (cs' := (((fillL (recK s (hb h)) 512 (2 * j)).set (2 * j + bitB (hb h) j) (shownL (cut32 s j))).set (2 * j + 1 - bitB (hb h) j) (toH (cut32 s (256 + j)))).flatMap hc) (by rw [Nat.zero_add, show (2 * (j : Int) + 1 - (bitB (hb h) j : Int)).toNat = 2 * j + 1 - bitB (hb h) j by omega]; exact spl_flat (by rw [List.length_set, fillL_length]; omega) _) (by rw [hc_length, flat_length, List.length_set, fillL_length]; omega) ?_
        refine OW.nil ?_
        refine hK10 _ _ ?_
        refine CW.drop (List.sublist_cons_self _ _) ?_
        refine CW.region ?_
        refine OW.q rfl rfl (yq_move rfl (by (conv => lhs; whnf) <;> rfl)) ?_
        refine OW.q rfl rfl (yq_add rfl (by (conv => lhs; whnf) <;> rfl) (by (conv => lhs; whnf) <;> rfl) (by omega)) ?_
        refine OW.q rfl rfl (yq_assign rfl (by (conv => lhs; whnf) <;> rfl)) ?_
        refine OW.nil ?_
        refine ⟨j + 1, ⟨Has.mk ⟨(by (conv => lhs; whnf) <;> rfl), (by (conv => lhs; whnf) <;> rfl), (by (conv => lhs; whnf) <;> rfl), (by (conv => lhs; whnf) <;> rfl), (by (conv => lhs; whnf) <;> rfl), trivial⟩, by omega, ?_⟩, by omega⟩
        rw [← fill_two _ _ _ _ hbl (by omega), recK_hit, recK_miss]
      · have hj5 : j = 256 := by omega
        subst hj5
        refine CW.exit ?_
        refine then_exit ?_
        refine then_exit ?_
        refine blockQ_hit ?_
        refine hK6 _ _ ?_
        refine CW.seq_k fun K14 hK14 => ?_
        rw [show 2 * 256 = 512 from rfl, recL_fill]
        refine CW.region ?_
        refine OW.q rfl rfl (yq_move rfl (by (conv => lhs; whnf) <;> rfl)) ?_
        refine OW.q rfl rfl (yq_call rfl rfl (.cons (by (conv => lhs; whnf) <;> rfl) .nil) en61 (fun w hw => refkeyleaf_calls _ (recL s (hb h)) w (hsFull (recL_length _ _) (hw.own (.blk bm ((recL s (hb h)).flatMap hc) 25 (0, 0)) (by repeat' first | exact List.mem_cons_self .. | apply List.mem_cons_of_mem))))) ?_
        refine OW.storeH rfl rfl rfl (by (conv => lhs; whnf) <;> rfl) (by (conv => lhs; whnf) <;> rfl) ti25 (by repeat' first | exact Put.head | apply Put.tail) (hc_length _) ?_
        refine OW.q rfl rfl (yq_assign rfl (by (conv => lhs; whnf) <;> rfl)) ?_
        refine OW.nil ?_
        refine hK14 _ _ ?_
        refine CW.ret ?_
        -- ret (ret)
        rw [recV_ok hl]
        exact fin2 (Or.inr rfl) rfl (rv_hash (by decide) (by (conv => lhs; whnf) <;> rfl) ti25 (by repeat' first | exact List.mem_cons_self .. | apply List.mem_cons_of_mem)) ⟨by decide, (by (conv => lhs; whnf) <;> rfl)⟩ (fun w hw => ⟨rfl, hw.sub (List.nil_sublist _)⟩)
end Go.Proofs.YtahdekllphehkaaDoor
namespace Go.Proofs.YtahdekllphehkaaDoor
open Go.WL Go.Spec
end Go.Proofs.YtahdekllphehkaaDoor
