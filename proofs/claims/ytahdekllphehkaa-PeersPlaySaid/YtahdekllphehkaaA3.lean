/- Peers turned; no statement of the seat is proved here. -/
import Derived.Test.YtahdekllphehkaaA2
set_option linter.unusedVariables false
set_option linter.unusedSimpArgs false
namespace Go.Proofs.Ytahdekllphehkaa
open Go.WL Go.Spec

set_option maxRecDepth 100000 in
set_option maxHeartbeats 1000000 in
theorem good_calls (p : PS) (i : Int) (b b2 cap : Nat) {w0 w : World} {E : List Nat} {Lk : List Ent} (hok : p.ok)
    (hcl : Cl w0 E (.blk b [.slice (some ⟨b2, 0, none⟩) (p).l.length cap, .int .i64 ((p).last : Int)] 55 (0, 0) :: .row (some b2) cap (p).l.length 42 4 ((p).l.flatMap prC) :: Lk) w) : Calls Try.prog 15 #[.pointer (some ⟨b, 0, none⟩), .int .i64 i] w fun e w' => ∃ v L1, e = .returned v ∧ Cl w [b, b2] L1 w' ∧ v = .int .i64 (actE p i) ∧ L1 = [.blk b [.slice (some ⟨b2, 0, none⟩) (p).l.length cap, .int .i64 (p.last : Int)] 55 (0, 0), .row (some b2) cap p.l.length 42 4 (((actS goodP p i)).l.flatMap prC)] := by
  have hl1 := hok.1
  have hl2 := hok.2.1
  refine calls_of_CW (L := [.blk b [.slice (some ⟨b2, 0, none⟩) (p).l.length cap, .int .i64 ((p).last : Int)] 55 (0, 0), .row (some b2) cap (p).l.length 42 4 ((p).l.flatMap prC)]) Try.func15 rfl (Nat.le_of_ble_eq_true rfl) (hcl.lent2) ?_
  refine CW.seq_k fun K1 hK1 => ?_
  refine CW.region ?_
  refine OW.q rfl rfl (yq_assign rfl (by (conv => lhs; whnf) <;> rfl)) ?_
  refine OW.nil ?_
  refine hK1 _ _ ?_
  refine CW.seq_k fun K2 hK2 => ?_
  refine CW.seq_k fun K3 hK3 => ?_
  refine CW.region ?_
  refine OW.q rfl rfl (yq_move rfl (by (conv => lhs; whnf) <;> rfl)) ?_
  refine OW.q rfl rfl (yq_move rfl (by (conv => lhs; whnf) <;> rfl)) ?_
  refine OW.q rfl rfl (yq_call rfl rfl (.cons (by (conv => lhs; whnf) <;> rfl) ( .cons (by (conv => lhs; whnf) <;> rfl) .nil)) en31 (fun w hw => check_ps p i b b2 cap w (psAt_row hw (List.mem_cons_self ..) (List.mem_cons_of_mem _ (List.mem_cons_self ..))) hok)) ?_
  refine OW.q rfl rfl (yq_assign rfl (by (conv => lhs; whnf) <;> rfl)) ?_
  refine OW.nil ?_
  refine hK3 _ _ ?_
  refine CW.seq_k fun K4 hK4 => ?_
  refine CW.region ?_
  refine OW.q rfl rfl (yq_move rfl (by (conv => lhs; whnf) <;> rfl)) ?_
  refine OW.q rfl rfl (yq_neq rfl (by (conv => lhs; whnf) <;> rfl) (by (conv => lhs; whnf) <;> rfl)) ?_
  refine OW.nil ?_
  refine hK4 _ _ ?_
  refine CW.cond_dec (by (conv => lhs; whnf) <;> rfl) (fun hc0 => ?_) (fun hc0 => ?_)
  · have hout : ¬ inP p i := fun h => hc0 (actE_in h)
    refine CW.seq_k fun K5 hK5 => ?_
    refine CW.region ?_
    refine OW.q rfl rfl (yq_move rfl (by (conv => lhs; whnf) <;> rfl)) ?_
    refine OW.q rfl rfl (yq_assign rfl (by (conv => lhs; whnf) <;> rfl)) ?_
    refine OW.nil ?_
    refine hK5 _ _ ?_
    refine CW.ret ?_
    refine then_ret ?_
    -- ret (ret)
    rw [actE_out hout, actS_out hout]
    exact fin1 (Or.inr rfl) rfl ⟨by decide, (by (conv => lhs; whnf) <;> rfl)⟩ (fun w hw => ⟨_, _, rfl, hw, rfl, rfl⟩)
  · have hin0 : inP p i := by
      by_cases h : inP p i
      · exact h
      · exact absurd (actE_out h) (by intro e; rw [e] at hc0; exact hc0 (by decide))
    have hin1 := hin0
    unfold inP at hin1
    obtain ⟨k, rfl⟩ : ∃ k : Nat, i = (k : Int) := ⟨i.toNat, by omega⟩
    have hk : k < p.l.length := by omega
    have hin : inP p (k : Int) := by unfold inP; omega
    have hx := PS.get_ok hok k
    obtain ⟨x, hxe⟩ : ∃ x, p.get k = x := ⟨_, rfl⟩
    rw [hxe] at hx
    obtain ⟨hx1, hx2, hx3, hx4, hx5, hx6⟩ := hx
    have hpe : p.l.flatMap prC = (p.set k x).l.flatMap prC := by rw [← hxe, PS.set_get hk]
    rw [hpe]
    refine CW.skip ?_
    refine hK2 _ _ ?_
    refine CW.seq_k fun K6 hK6 => ?_
    refine CW.held ([.blk b [.slice (some ⟨b2, 0, none⟩) (p).l.length cap, .int .i64 ((p).last : Int)] 55 (0, 0)]) mixed ?_
    refine HW.take 0 rfl (by kernel_rfl) (by kernel_rfl) (by kernel_rfl) rfl rfl (by repeat' first | exact List.Sublist.refl _ | exact List.nil_sublist _ | apply List.Sublist.cons_cons | apply List.Sublist.cons) (yv_of_yq rfl (yq_move rfl (by (conv => lhs; whnf) <;> rfl))) ?_
    refine HW.take 1 rfl (by kernel_rfl) (by kernel_rfl) (by kernel_rfl) rfl rfl (by repeat' first | exact List.Sublist.refl _ | exact List.nil_sublist _ | apply List.Sublist.cons_cons | apply List.Sublist.cons) (yv_nilCheck rfl (by (conv => lhs; whnf) <;> rfl)) ?_
    refine HW.take 2 rfl (by kernel_rfl) (by kernel_rfl) (by kernel_rfl) rfl rfl (by repeat' first | exact List.Sublist.refl _ | exact List.nil_sublist _ | apply List.Sublist.cons_cons | apply List.Sublist.cons) (yv_of_yq rfl (yq_fieldAddr rfl (by (conv => lhs; whnf) <;> rfl) tf55_0 ti53)) ?_
    refine HW.take 3 rfl (by kernel_rfl) (by kernel_rfl) (by kernel_rfl) rfl rfl (by repeat' first | exact List.Sublist.refl _ | exact List.nil_sublist _ | apply List.Sublist.cons_cons | apply List.Sublist.cons) (yv_of_yq rfl (yq_load1 rfl (by (conv => lhs; whnf) <;> rfl) ti53 (by repeat' first | exact List.mem_cons_self .. | apply List.mem_cons_of_mem) (by rfl))) ?_
    refine HW.take 4 rfl (by kernel_rfl) (by kernel_rfl) (by kernel_rfl) rfl rfl (by repeat' first | exact List.Sublist.refl _ | exact List.nil_sublist _ | apply List.Sublist.cons_cons | apply List.Sublist.cons) (yv_of_yq rfl (yq_move rfl (by (conv => lhs; whnf) <;> rfl))) ?_
    refine HW.take 5 rfl (by kernel_rfl) (by kernel_rfl) (by kernel_rfl) rfl rfl (by repeat' first | exact List.Sublist.refl _ | exact List.nil_sublist _ | apply List.Sublist.cons_cons | apply List.Sublist.cons) (yv_of_yq rfl (yq_move rfl (by (conv => lhs; whnf) <;> rfl))) ?_
    refine HW.take 6 rfl (by kernel_rfl) (by kernel_rfl) (by kernel_rfl) rfl rfl (by repeat' first | exact List.Sublist.refl _ | exact List.nil_sublist _ | apply List.Sublist.cons_cons | apply List.Sublist.cons) (yv_nilCheck rfl (by (conv => lhs; whnf) <;> rfl)) ?_
    refine HW.take 7 rfl (by kernel_rfl) (by kernel_rfl) (by kernel_rfl) rfl rfl (by repeat' first | exact List.Sublist.refl _ | exact List.nil_sublist _ | apply List.Sublist.cons_cons | apply List.Sublist.cons) (yv_of_yq rfl (yq_fieldAddr rfl (by (conv => lhs; whnf) <;> rfl) tf55_0 ti53)) ?_
    refine HW.take 8 rfl (by kernel_rfl) (by kernel_rfl) (by kernel_rfl) rfl rfl (by repeat' first | exact List.Sublist.refl _ | exact List.nil_sublist _ | apply List.Sublist.cons_cons | apply List.Sublist.cons) (yv_of_yq rfl (yq_load1 rfl (by (conv => lhs; whnf) <;> rfl) ti53 (by repeat' first | exact List.mem_cons_self .. | apply List.mem_cons_of_mem) (by rfl))) ?_
    refine HW.take 9 rfl (by kernel_rfl) (by kernel_rfl) (by kernel_rfl) rfl rfl (by repeat' first | exact List.Sublist.refl _ | exact List.nil_sublist _ | apply List.Sublist.cons_cons | apply List.Sublist.cons) (yv_of_yq rfl (yq_move rfl (by (conv => lhs; whnf) <;> rfl))) ?_
    refine HW.take 10 rfl (by kernel_rfl) (by kernel_rfl) (by kernel_rfl) rfl rfl (by repeat' first | exact List.Sublist.refl _ | exact List.nil_sublist _ | apply List.Sublist.cons_cons | apply List.Sublist.cons) (yv_of_yq rfl (yq_index_slice rfl (by (conv => lhs; whnf) <;> rfl) (by (conv => lhs; whnf) <;> rfl) ts53 ti42 (by omega) (by omega))) ?_
    refine HW.take 11 rfl (by kernel_rfl) (by kernel_rfl) (by kernel_rfl) rfl rfl (by repeat' first | exact List.Sublist.refl _ | exact List.nil_sublist _ | apply List.Sublist.cons_cons | apply List.Sublist.cons) (yv_of_yq rfl (yq_fieldAddr rfl (by (conv => lhs; whnf) <;> rfl) tf42_0 ti3)) ?_
    refine HW.one 12 (by kernel_rfl) rfl ?_
    refine OW.putPr (y := ⟨0, x.strikes, x.upto, x.barred⟩) rfl rfl rfl (by (conv => lhs; whnf) <;> rfl) (by (conv => lhs; whnf) <;> rfl) ti3 rfl rfl hk (by decide) (by repeat' first | exact Put.head | apply Put.tail) (by rfl) ?_
    refine OW.nil ⟨rfl, (by repeat' first | exact List.Sublist.refl _ | exact List.nil_sublist _ | apply List.Sublist.cons_cons | apply List.Sublist.cons), ?_⟩
    refine HW.take 13 rfl (by kernel_rfl) (by kernel_rfl) (by kernel_rfl) rfl rfl (by repeat' first | exact List.Sublist.refl _ | exact List.nil_sublist _ | apply List.Sublist.cons_cons | apply List.Sublist.cons) (yv_of_yq rfl (yq_index_slice rfl (by (conv => lhs; whnf) <;> rfl) (by (conv => lhs; whnf) <;> rfl) ts53 ti42 (by omega) (by omega))) ?_
    refine HW.take 14 rfl (by kernel_rfl) (by kernel_rfl) (by kernel_rfl) rfl rfl (by repeat' first | exact List.Sublist.refl _ | exact List.nil_sublist _ | apply List.Sublist.cons_cons | apply List.Sublist.cons) (yv_of_yq rfl (yq_fieldAddr rfl (by (conv => lhs; whnf) <;> rfl) tf42_3 ti4)) ?_
    refine HW.one 15 (by kernel_rfl) rfl ?_
    refine OW.putPr (y := (goodP x)) rfl rfl rfl (by (conv => lhs; whnf) <;> rfl) (by (conv => lhs; whnf) <;> rfl) ti4 rfl rfl hk (by decide) (by repeat' first | exact Put.head | apply Put.tail) (by rfl) ?_
    refine OW.nil ⟨rfl, (by repeat' first | exact List.Sublist.refl _ | exact List.nil_sublist _ | apply List.Sublist.cons_cons | apply List.Sublist.cons), ?_⟩
    refine HW.done (by kernel_rfl) ?_
    refine hK6 _ _ ?_
    refine CW.seq_k fun K7 hK7 => ?_
    refine CW.region ?_
    refine OW.q rfl rfl (yq_assign rfl (by (conv => lhs; whnf) <;> rfl)) ?_
    refine OW.nil ?_
    refine hK7 _ _ ?_
    refine CW.ret ?_
    -- ret (ret)
    rw [actE_in hin, actS_in hk, hxe]
    exact fin1 (Or.inr rfl) rfl ⟨by decide, (by (conv => lhs; whnf) <;> rfl)⟩ (fun w hw => ⟨_, _, rfl, hw, rfl, rfl⟩)

set_option maxRecDepth 100000 in
set_option maxHeartbeats 1000000 in
theorem late_calls (p : PS) (i : Int) (now : Int) (d : UInt8) (b b2 cap : Nat) {w0 w : World} {E : List Nat} {Lk : List Ent} (hok : p.ok)
    (hcl : Cl w0 E (.blk b [.slice (some ⟨b2, 0, none⟩) (p).l.length cap, .int .i64 ((p).last : Int)] 55 (0, 0) :: .row (some b2) cap (p).l.length 42 4 ((p).l.flatMap prC) :: Lk) w) : Calls Try.prog 16 #[.pointer (some ⟨b, 0, none⟩), .int .i64 i, .int .i64 now, U8 d] w fun e w' => ∃ v L1, e = .returned v ∧ Cl w [b, b2] L1 w' ∧ v = .int .i64 (actE p i) ∧ L1 = [.blk b [.slice (some ⟨b2, 0, none⟩) (p).l.length cap, .int .i64 (p.last : Int)] 55 (0, 0), .row (some b2) cap p.l.length 42 4 (((actS (fun x => lateP x now d.toNat) p i)).l.flatMap prC)] := by
  have hl1 := hok.1
  have hl2 := hok.2.1
  refine calls_of_CW (L := [.blk b [.slice (some ⟨b2, 0, none⟩) (p).l.length cap, .int .i64 ((p).last : Int)] 55 (0, 0), .row (some b2) cap (p).l.length 42 4 ((p).l.flatMap prC)]) Try.func16 rfl (Nat.le_of_ble_eq_true rfl) (hcl.lent2) ?_
  refine CW.seq_k fun K1 hK1 => ?_
  refine CW.region ?_
  refine OW.q rfl rfl (yq_assign rfl (by (conv => lhs; whnf) <;> rfl)) ?_
  refine OW.nil ?_
  refine hK1 _ _ ?_
  refine CW.seq_k fun K2 hK2 => ?_
  refine CW.seq_k fun K3 hK3 => ?_
  refine CW.region ?_
  refine OW.q rfl rfl (yq_move rfl (by (conv => lhs; whnf) <;> rfl)) ?_
  refine OW.q rfl rfl (yq_move rfl (by (conv => lhs; whnf) <;> rfl)) ?_
  refine OW.q rfl rfl (yq_call rfl rfl (.cons (by (conv => lhs; whnf) <;> rfl) ( .cons (by (conv => lhs; whnf) <;> rfl) .nil)) en31 (fun w hw => check_ps p i b b2 cap w (psAt_row hw (List.mem_cons_self ..) (List.mem_cons_of_mem _ (List.mem_cons_self ..))) hok)) ?_
  refine OW.q rfl rfl (yq_assign rfl (by (conv => lhs; whnf) <;> rfl)) ?_
  refine OW.nil ?_
  refine hK3 _ _ ?_
  refine CW.seq_k fun K4 hK4 => ?_
  refine CW.region ?_
  refine OW.q rfl rfl (yq_move rfl (by (conv => lhs; whnf) <;> rfl)) ?_
  refine OW.q rfl rfl (yq_neq rfl (by (conv => lhs; whnf) <;> rfl) (by (conv => lhs; whnf) <;> rfl)) ?_
  refine OW.nil ?_
  refine hK4 _ _ ?_
  refine CW.cond_dec (by (conv => lhs; whnf) <;> rfl) (fun hc0 => ?_) (fun hc0 => ?_)
  · have hout : ¬ inP p i := fun h => hc0 (actE_in h)
    refine CW.seq_k fun K5 hK5 => ?_
    refine CW.region ?_
    refine OW.q rfl rfl (yq_move rfl (by (conv => lhs; whnf) <;> rfl)) ?_
    refine OW.q rfl rfl (yq_assign rfl (by (conv => lhs; whnf) <;> rfl)) ?_
    refine OW.nil ?_
    refine hK5 _ _ ?_
    refine CW.ret ?_
    refine then_ret ?_
    -- ret (ret)
    rw [actE_out hout, actS_out hout]
    exact fin1 (Or.inr rfl) rfl ⟨by decide, (by (conv => lhs; whnf) <;> rfl)⟩ (fun w hw => ⟨_, _, rfl, hw, rfl, rfl⟩)
  · have hin0 : inP p i := by
      by_cases h : inP p i
      · exact h
      · exact absurd (actE_out h) (by intro e; rw [e] at hc0; exact hc0 (by decide))
    have hin1 := hin0
    unfold inP at hin1
    obtain ⟨k, rfl⟩ : ∃ k : Nat, i = (k : Int) := ⟨i.toNat, by omega⟩
    have hk : k < p.l.length := by omega
    have hin : inP p (k : Int) := by unfold inP; omega
    have hx := PS.get_ok hok k
    obtain ⟨x, hxe⟩ : ∃ x, p.get k = x := ⟨_, rfl⟩
    rw [hxe] at hx
    obtain ⟨hx1, hx2, hx3, hx4, hx5, hx6⟩ := hx
    have hpe : p.l.flatMap prC = (p.set k x).l.flatMap prC := by rw [← hxe, PS.set_get hk]
    rw [hpe]
    refine CW.skip ?_
    refine hK2 _ _ ?_
    refine CW.seq_k fun K6 hK6 => ?_
    refine CW.region ?_
    refine OW.q rfl rfl (yq_move rfl (by (conv => lhs; whnf) <;> rfl)) ?_
    refine OW.q rfl rfl (yq_nilCheck rfl (by (conv => lhs; whnf) <;> rfl)) ?_
    refine OW.q rfl rfl (yq_fieldAddr rfl (by (conv => lhs; whnf) <;> rfl) tf55_0 ti53) ?_
    refine OW.q rfl rfl (yq_load1 rfl (by (conv => lhs; whnf) <;> rfl) ti53 (by repeat' first | exact List.mem_cons_self .. | apply List.mem_cons_of_mem) (by rfl)) ?_
    refine OW.q rfl rfl (yq_move rfl (by (conv => lhs; whnf) <;> rfl)) ?_
    refine OW.q rfl rfl (yq_index_slice rfl (by (conv => lhs; whnf) <;> rfl) (by (conv => lhs; whnf) <;> rfl) ts53 ti42 (by omega) (by omega)) ?_
    refine OW.q rfl rfl (yq_assign rfl (by (conv => lhs; whnf) <;> rfl)) ?_
    refine OW.nil ?_
    refine hK6 _ _ ?_
    refine CW.seq_k fun K7 hK7 => ?_
    refine CW.region ?_
    refine OW.q rfl rfl (yq_move rfl (by (conv => lhs; whnf) <;> rfl)) ?_
    refine OW.q rfl rfl (yq_move rfl (by (conv => lhs; whnf) <;> rfl)) ?_
    refine OW.q rfl rfl (yq_nilCheck rfl (by (conv => lhs; whnf) <;> rfl)) ?_
    refine OW.q rfl rfl (yq_fieldAddr rfl (by (conv => lhs; whnf) <;> rfl) tf42_0 ti3) ?_
    refine OW.q rfl rfl (yq_load_c (v := .int .i64 x.tries) rfl (by (conv => lhs; whnf) <;> rfl) (fun w hw => run_load_one ti3 (row_at hw (by repeat' first | exact List.mem_cons_self .. | apply List.mem_cons_of_mem) hk (by decide) rfl))) ?_
    refine OW.q rfl rfl (yq_add rfl (by (conv => lhs; whnf) <;> rfl) (by (conv => lhs; whnf) <;> rfl) (by omega)) ?_
    refine OW.q rfl rfl (yq_min (r := (if 1048576 < x.tries + 1 then (1048576 : Int) else x.tries + 1)) rfl (by (conv => lhs; whnf) <;> rfl) (by (conv => lhs; whnf) <;> rfl) rfl) ?_
    refine OW.q rfl rfl (yq_nilCheck rfl (by (conv => lhs; whnf) <;> rfl)) ?_
    refine OW.q rfl rfl (yq_fieldAddr rfl (by (conv => lhs; whnf) <;> rfl) tf42_0 ti3) ?_
    refine OW.putPr (y := ⟨(if 1048576 < x.tries + 1 then (1048576 : Int) else x.tries + 1), x.strikes, x.upto, x.barred⟩) rfl rfl rfl (by (conv => lhs; whnf) <;> rfl) (by (conv => lhs; whnf) <;> rfl) ti3 rfl rfl hk (by decide) (by repeat' first | exact Put.head | apply Put.tail) (by rfl) ?_
    refine OW.nil ?_
    refine hK7 _ _ ?_
    refine CW.seq_k fun K8 hK8 => ?_
    have hn := near_in now
    have hg := @gapP_le (if 1048576 < x.tries + 1 then (1048576 : Int) else x.tries + 1) (d.toNat : Int)
    refine CW.drawT 12 mixed (by kernel_rfl) ?_
    refine QW.q rfl rfl (yq_move rfl (by (conv => lhs; whnf) <;> rfl)) ?_
    refine QW.q rfl rfl (yq_move rfl (by (conv => lhs; whnf) <;> rfl)) ?_
    refine QW.q rfl rfl (yq_call rfl rfl (.cons (by (conv => lhs; whnf) <;> rfl) .nil) en32 (fun w hw => near_calls now w)) ?_
    refine QW.q rfl rfl (yq_move rfl (by (conv => lhs; whnf) <;> rfl)) ?_
    refine QW.q rfl rfl (yq_nilCheck rfl (by (conv => lhs; whnf) <;> rfl)) ?_
    refine QW.q rfl rfl (yq_fieldAddr rfl (by (conv => lhs; whnf) <;> rfl) tf42_0 ti3) ?_
    refine QW.q rfl rfl (yq_load_c (v := .int .i64 (if 1048576 < x.tries + 1 then (1048576 : Int) else x.tries + 1)) rfl (by (conv => lhs; whnf) <;> rfl) (fun w hw => run_load_one ti3 (row_at hw (by repeat' first | exact List.mem_cons_self .. | apply List.mem_cons_of_mem) hk (by decide) rfl))) ?_
    refine QW.q rfl rfl (yq_move rfl (by (conv => lhs; whnf) <;> rfl)) ?_
    refine QW.q rfl rfl (yq_call rfl rfl (.cons (by (conv => lhs; whnf) <;> rfl) ( .cons (by (conv => lhs; whnf) <;> rfl) .nil)) en10 (fun w hw => gap_calls (if 1048576 < x.tries + 1 then (1048576 : Int) else x.tries + 1) d w (by split <;> omega) (by split <;> omega))) ?_
    refine QW.q rfl rfl (yq_add rfl (by (conv => lhs; whnf) <;> rfl) (by (conv => lhs; whnf) <;> rfl) (by omega)) ?_
    refine QW.q rfl rfl (yq_nilCheck rfl (by (conv => lhs; whnf) <;> rfl)) ?_
    refine QW.q rfl rfl (yq_fieldAddr rfl (by (conv => lhs; whnf) <;> rfl) tf42_2 ti3) ?_
    refine QW.nil ?_
    refine OW.putPr (y := (lateP x now d.toNat)) rfl rfl rfl (by (conv => lhs; whnf) <;> rfl) (by (conv => lhs; whnf) <;> rfl) ti3 rfl rfl hk (by decide) (by repeat' first | exact Put.head | apply Put.tail) (by rfl) ?_
    refine OW.nil ?_
    refine hK8 _ _ ?_
    refine CW.seq_k fun K9 hK9 => ?_
    refine CW.region ?_
    refine OW.q rfl rfl (yq_assign rfl (by (conv => lhs; whnf) <;> rfl)) ?_
    refine OW.nil ?_
    refine hK9 _ _ ?_
    refine CW.ret ?_
    -- ret (ret)
    rw [actE_in hin, actS_in hk, hxe]
    exact fin1 (Or.inr rfl) rfl ⟨by decide, (by (conv => lhs; whnf) <;> rfl)⟩ (fun w hw => ⟨_, _, rfl, hw, rfl, rfl⟩)

set_option maxRecDepth 100000 in
set_option maxHeartbeats 1000000 in
theorem bad_calls (p : PS) (i : Int) (now : Int) (b b2 cap : Nat) {w0 w : World} {E : List Nat} {Lk : List Ent} (hok : p.ok)
    (hcl : Cl w0 E (.blk b [.slice (some ⟨b2, 0, none⟩) (p).l.length cap, .int .i64 ((p).last : Int)] 55 (0, 0) :: .row (some b2) cap (p).l.length 42 4 ((p).l.flatMap prC) :: Lk) w) : Calls Try.prog 17 #[.pointer (some ⟨b, 0, none⟩), .int .i64 i, .int .i64 now] w fun e w' => ∃ v L1, e = .returned v ∧ Cl w [b, b2] L1 w' ∧ v = .int .i64 (actE p i) ∧ L1 = [.blk b [.slice (some ⟨b2, 0, none⟩) (p).l.length cap, .int .i64 (p.last : Int)] 55 (0, 0), .row (some b2) cap p.l.length 42 4 (((actS (fun x => badP x now) p i)).l.flatMap prC)] := by
  have hl1 := hok.1
  have hl2 := hok.2.1
  refine calls_of_CW (L := [.blk b [.slice (some ⟨b2, 0, none⟩) (p).l.length cap, .int .i64 ((p).last : Int)] 55 (0, 0), .row (some b2) cap (p).l.length 42 4 ((p).l.flatMap prC)]) Try.func17 rfl (Nat.le_of_ble_eq_true rfl) (hcl.lent2) ?_
  refine CW.seq_k fun K1 hK1 => ?_
  refine CW.region ?_
  refine OW.q rfl rfl (yq_assign rfl (by (conv => lhs; whnf) <;> rfl)) ?_
  refine OW.nil ?_
  refine hK1 _ _ ?_
  refine CW.seq_k fun K2 hK2 => ?_
  refine CW.seq_k fun K3 hK3 => ?_
  refine CW.region ?_
  refine OW.q rfl rfl (yq_move rfl (by (conv => lhs; whnf) <;> rfl)) ?_
  refine OW.q rfl rfl (yq_move rfl (by (conv => lhs; whnf) <;> rfl)) ?_
  refine OW.q rfl rfl (yq_call rfl rfl (.cons (by (conv => lhs; whnf) <;> rfl) ( .cons (by (conv => lhs; whnf) <;> rfl) .nil)) en31 (fun w hw => check_ps p i b b2 cap w (psAt_row hw (List.mem_cons_self ..) (List.mem_cons_of_mem _ (List.mem_cons_self ..))) hok)) ?_
  refine OW.q rfl rfl (yq_assign rfl (by (conv => lhs; whnf) <;> rfl)) ?_
  refine OW.nil ?_
  refine hK3 _ _ ?_
  refine CW.seq_k fun K4 hK4 => ?_
  refine CW.region ?_
  refine OW.q rfl rfl (yq_move rfl (by (conv => lhs; whnf) <;> rfl)) ?_
  refine OW.q rfl rfl (yq_neq rfl (by (conv => lhs; whnf) <;> rfl) (by (conv => lhs; whnf) <;> rfl)) ?_
  refine OW.nil ?_
  refine hK4 _ _ ?_
  refine CW.cond_dec (by (conv => lhs; whnf) <;> rfl) (fun hc0 => ?_) (fun hc0 => ?_)
  · have hout : ¬ inP p i := fun h => hc0 (actE_in h)
    refine CW.seq_k fun K5 hK5 => ?_
    refine CW.region ?_
    refine OW.q rfl rfl (yq_move rfl (by (conv => lhs; whnf) <;> rfl)) ?_
    refine OW.q rfl rfl (yq_assign rfl (by (conv => lhs; whnf) <;> rfl)) ?_
    refine OW.nil ?_
    refine hK5 _ _ ?_
    refine CW.ret ?_
    refine then_ret ?_
    -- ret (ret)
    rw [actE_out hout, actS_out hout]
    exact fin1 (Or.inr rfl) rfl ⟨by decide, (by (conv => lhs; whnf) <;> rfl)⟩ (fun w hw => ⟨_, _, rfl, hw, rfl, rfl⟩)
  · have hin0 : inP p i := by
      by_cases h : inP p i
      · exact h
      · exact absurd (actE_out h) (by intro e; rw [e] at hc0; exact hc0 (by decide))
    have hin1 := hin0
    unfold inP at hin1
    obtain ⟨k, rfl⟩ : ∃ k : Nat, i = (k : Int) := ⟨i.toNat, by omega⟩
    have hk : k < p.l.length := by omega
    have hin : inP p (k : Int) := by unfold inP; omega
    have hx := PS.get_ok hok k
    obtain ⟨x, hxe⟩ : ∃ x, p.get k = x := ⟨_, rfl⟩
    rw [hxe] at hx
    obtain ⟨hx1, hx2, hx3, hx4, hx5, hx6⟩ := hx
    have hpe : p.l.flatMap prC = (p.set k x).l.flatMap prC := by rw [← hxe, PS.set_get hk]
    rw [hpe]
    refine CW.skip ?_
    refine hK2 _ _ ?_
    refine CW.seq_k fun K6 hK6 => ?_
    refine CW.region ?_
    refine OW.q rfl rfl (yq_move rfl (by (conv => lhs; whnf) <;> rfl)) ?_
    refine OW.q rfl rfl (yq_nilCheck rfl (by (conv => lhs; whnf) <;> rfl)) ?_
    refine OW.q rfl rfl (yq_fieldAddr rfl (by (conv => lhs; whnf) <;> rfl) tf55_0 ti53) ?_
    refine OW.q rfl rfl (yq_load1 rfl (by (conv => lhs; whnf) <;> rfl) ti53 (by repeat' first | exact List.mem_cons_self .. | apply List.mem_cons_of_mem) (by rfl)) ?_
    refine OW.q rfl rfl (yq_move rfl (by (conv => lhs; whnf) <;> rfl)) ?_
    refine OW.q rfl rfl (yq_index_slice rfl (by (conv => lhs; whnf) <;> rfl) (by (conv => lhs; whnf) <;> rfl) ts53 ti42 (by omega) (by omega)) ?_
    refine OW.q rfl rfl (yq_assign rfl (by (conv => lhs; whnf) <;> rfl)) ?_
    refine OW.nil ?_
    refine hK6 _ _ ?_
    refine CW.seq_k fun K7 hK7 => ?_
    have hn := near_in now
    have hpa : 64 ≤ paroleP x.strikes ∧ paroleP x.strikes ≤ 1024 := by unfold paroleP; omega
    refine CW.drawT 12 mixed (by kernel_rfl) ?_
    refine QW.q rfl rfl (yq_move rfl (by (conv => lhs; whnf) <;> rfl)) ?_
    refine QW.q rfl rfl (yq_move rfl (by (conv => lhs; whnf) <;> rfl)) ?_
    refine QW.q rfl rfl (yq_call rfl rfl (.cons (by (conv => lhs; whnf) <;> rfl) .nil) en32 (fun w hw => near_calls now w)) ?_
    refine QW.q rfl rfl (yq_move rfl (by (conv => lhs; whnf) <;> rfl)) ?_
    refine QW.q rfl rfl (yq_nilCheck rfl (by (conv => lhs; whnf) <;> rfl)) ?_
    refine QW.q rfl rfl (yq_fieldAddr rfl (by (conv => lhs; whnf) <;> rfl) tf42_1 ti3) ?_
    refine QW.q rfl rfl (yq_load_c (v := .int .i64 x.strikes) rfl (by (conv => lhs; whnf) <;> rfl) (fun w hw => run_load_one ti3 (row_at hw (by repeat' first | exact List.mem_cons_self .. | apply List.mem_cons_of_mem) hk (by decide) rfl))) ?_
    refine QW.q rfl rfl (yq_min (r := if 4 < x.strikes then (4 : Int) else x.strikes) rfl (by (conv => lhs; whnf) <;> rfl) (by (conv => lhs; whnf) <;> rfl) rfl) ?_
    refine QW.q rfl rfl (yq_shl_e (r := paroleP x.strikes) rfl (by (conv => lhs; whnf) <;> rfl) (by (conv => lhs; whnf) <;> rfl) (by split <;> omega) (parole_shl (by omega))) ?_
    refine QW.q rfl rfl (yq_add rfl (by (conv => lhs; whnf) <;> rfl) (by (conv => lhs; whnf) <;> rfl) (by omega)) ?_
    refine QW.q rfl rfl (yq_nilCheck rfl (by (conv => lhs; whnf) <;> rfl)) ?_
    refine QW.q rfl rfl (yq_fieldAddr rfl (by (conv => lhs; whnf) <;> rfl) tf42_2 ti3) ?_
    refine QW.nil ?_
    refine OW.putPr (y := ⟨x.tries, x.strikes, near now + paroleP x.strikes, x.barred⟩) rfl rfl rfl (by (conv => lhs; whnf) <;> rfl) (by (conv => lhs; whnf) <;> rfl) ti3 rfl rfl hk (by decide) (by repeat' first | exact Put.head | apply Put.tail) (by rfl) ?_
    refine OW.nil ?_
    refine hK7 _ _ ?_
    refine CW.seq_k fun K8 hK8 => ?_
    refine CW.region ?_
    refine OW.q rfl rfl (yq_move rfl (by (conv => lhs; whnf) <;> rfl)) ?_
    refine OW.q rfl rfl (yq_move rfl (by (conv => lhs; whnf) <;> rfl)) ?_
    refine OW.q rfl rfl (yq_nilCheck rfl (by (conv => lhs; whnf) <;> rfl)) ?_
    refine OW.q rfl rfl (yq_fieldAddr rfl (by (conv => lhs; whnf) <;> rfl) tf42_1 ti3) ?_
    refine OW.q rfl rfl (yq_load_c (v := .int .i64 x.strikes) rfl (by (conv => lhs; whnf) <;> rfl) (fun w hw => run_load_one ti3 (row_at hw (by repeat' first | exact List.mem_cons_self .. | apply List.mem_cons_of_mem) hk (by decide) rfl))) ?_
    refine OW.q rfl rfl (yq_add rfl (by (conv => lhs; whnf) <;> rfl) (by (conv => lhs; whnf) <;> rfl) (by omega)) ?_
    refine OW.q rfl rfl (yq_min (r := (if 1048576 < x.strikes + 1 then (1048576 : Int) else x.strikes + 1)) rfl (by (conv => lhs; whnf) <;> rfl) (by (conv => lhs; whnf) <;> rfl) rfl) ?_
    refine OW.q rfl rfl (yq_nilCheck rfl (by (conv => lhs; whnf) <;> rfl)) ?_
    refine OW.q rfl rfl (yq_fieldAddr rfl (by (conv => lhs; whnf) <;> rfl) tf42_1 ti3) ?_
    refine OW.putPr (y := ⟨x.tries, (if 1048576 < x.strikes + 1 then (1048576 : Int) else x.strikes + 1), near now + paroleP x.strikes, x.barred⟩) rfl rfl rfl (by (conv => lhs; whnf) <;> rfl) (by (conv => lhs; whnf) <;> rfl) ti3 rfl rfl hk (by decide) (by repeat' first | exact Put.head | apply Put.tail) (by rfl) ?_
    refine OW.nil ?_
    refine hK8 _ _ ?_
    refine CW.seq_k fun K9 hK9 => ?_
    refine CW.region ?_
    refine OW.q rfl rfl (yq_move rfl (by (conv => lhs; whnf) <;> rfl)) ?_
    refine OW.q rfl rfl (yq_move rfl (by (conv => lhs; whnf) <;> rfl)) ?_
    refine OW.q rfl rfl (yq_nilCheck rfl (by (conv => lhs; whnf) <;> rfl)) ?_
    refine OW.q rfl rfl (yq_fieldAddr rfl (by (conv => lhs; whnf) <;> rfl) tf42_0 ti3) ?_
    refine OW.putPr (y := ⟨0, (if 1048576 < x.strikes + 1 then (1048576 : Int) else x.strikes + 1), near now + paroleP x.strikes, x.barred⟩) rfl rfl rfl (by (conv => lhs; whnf) <;> rfl) (by (conv => lhs; whnf) <;> rfl) ti3 rfl rfl hk (by decide) (by repeat' first | exact Put.head | apply Put.tail) (by rfl) ?_
    refine OW.q rfl rfl (yq_nilCheck rfl (by (conv => lhs; whnf) <;> rfl)) ?_
    refine OW.q rfl rfl (yq_fieldAddr rfl (by (conv => lhs; whnf) <;> rfl) tf42_3 ti4) ?_
    refine OW.putPr (y := (badP x now)) rfl rfl rfl (by (conv => lhs; whnf) <;> rfl) (by (conv => lhs; whnf) <;> rfl) ti4 rfl rfl hk (by decide) (by repeat' first | exact Put.head | apply Put.tail) (by rfl) ?_
    refine OW.nil ?_
    refine hK9 _ _ ?_
    refine CW.seq_k fun K10 hK10 => ?_
    refine CW.region ?_
    refine OW.q rfl rfl (yq_assign rfl (by (conv => lhs; whnf) <;> rfl)) ?_
    refine OW.nil ?_
    refine hK10 _ _ ?_
    refine CW.ret ?_
    -- ret (ret)
    rw [actE_in hin, actS_in hk, hxe]
    exact fin1 (Or.inr rfl) rfl ⟨by decide, (by (conv => lhs; whnf) <;> rfl)⟩ (fun w hw => ⟨_, _, rfl, hw, rfl, rfl⟩)

set_option maxRecDepth 100000 in
set_option maxHeartbeats 1000000 in
theorem idle_calls (p : PS) (i : Int) (now : Int) (b b2 cap : Nat) {w0 w : World} {E : List Nat} {Lk : List Ent} (hok : p.ok)
    (hcl : Cl w0 E (.blk b [.slice (some ⟨b2, 0, none⟩) (p).l.length cap, .int .i64 ((p).last : Int)] 55 (0, 0) :: .row (some b2) cap (p).l.length 42 4 ((p).l.flatMap prC) :: Lk) w) : Calls Try.prog 18 #[.pointer (some ⟨b, 0, none⟩), .int .i64 i, .int .i64 now] w fun e w' => ∃ v L1, e = .returned v ∧ Cl w [b, b2] L1 w' ∧ v = .int .i64 (actE p i) ∧ L1 = [.blk b [.slice (some ⟨b2, 0, none⟩) (p).l.length cap, .int .i64 (p.last : Int)] 55 (0, 0), .row (some b2) cap p.l.length 42 4 (((actS (fun x => idleP x now) p i)).l.flatMap prC)] := by
  have hl1 := hok.1
  have hl2 := hok.2.1
  refine calls_of_CW (L := [.blk b [.slice (some ⟨b2, 0, none⟩) (p).l.length cap, .int .i64 ((p).last : Int)] 55 (0, 0), .row (some b2) cap (p).l.length 42 4 ((p).l.flatMap prC)]) Try.func18 rfl (Nat.le_of_ble_eq_true rfl) (hcl.lent2) ?_
  refine CW.seq_k fun K1 hK1 => ?_
  refine CW.region ?_
  refine OW.q rfl rfl (yq_assign rfl (by (conv => lhs; whnf) <;> rfl)) ?_
  refine OW.nil ?_
  refine hK1 _ _ ?_
  refine CW.seq_k fun K2 hK2 => ?_
  refine CW.seq_k fun K3 hK3 => ?_
  refine CW.region ?_
  refine OW.q rfl rfl (yq_move rfl (by (conv => lhs; whnf) <;> rfl)) ?_
  refine OW.q rfl rfl (yq_move rfl (by (conv => lhs; whnf) <;> rfl)) ?_
  refine OW.q rfl rfl (yq_call rfl rfl (.cons (by (conv => lhs; whnf) <;> rfl) ( .cons (by (conv => lhs; whnf) <;> rfl) .nil)) en31 (fun w hw => check_ps p i b b2 cap w (psAt_row hw (List.mem_cons_self ..) (List.mem_cons_of_mem _ (List.mem_cons_self ..))) hok)) ?_
  refine OW.q rfl rfl (yq_assign rfl (by (conv => lhs; whnf) <;> rfl)) ?_
  refine OW.nil ?_
  refine hK3 _ _ ?_
  refine CW.seq_k fun K4 hK4 => ?_
  refine CW.region ?_
  refine OW.q rfl rfl (yq_move rfl (by (conv => lhs; whnf) <;> rfl)) ?_
  refine OW.q rfl rfl (yq_neq rfl (by (conv => lhs; whnf) <;> rfl) (by (conv => lhs; whnf) <;> rfl)) ?_
  refine OW.nil ?_
  refine hK4 _ _ ?_
  refine CW.cond_dec (by (conv => lhs; whnf) <;> rfl) (fun hc0 => ?_) (fun hc0 => ?_)
  · have hout : ¬ inP p i := fun h => hc0 (actE_in h)
    refine CW.seq_k fun K5 hK5 => ?_
    refine CW.region ?_
    refine OW.q rfl rfl (yq_move rfl (by (conv => lhs; whnf) <;> rfl)) ?_
    refine OW.q rfl rfl (yq_assign rfl (by (conv => lhs; whnf) <;> rfl)) ?_
    refine OW.nil ?_
    refine hK5 _ _ ?_
    refine CW.ret ?_
    refine then_ret ?_
    -- ret (ret)
    rw [actE_out hout, actS_out hout]
    exact fin1 (Or.inr rfl) rfl ⟨by decide, (by (conv => lhs; whnf) <;> rfl)⟩ (fun w hw => ⟨_, _, rfl, hw, rfl, rfl⟩)
  · have hin0 : inP p i := by
      by_cases h : inP p i
      · exact h
      · exact absurd (actE_out h) (by intro e; rw [e] at hc0; exact hc0 (by decide))
    have hin1 := hin0
    unfold inP at hin1
    obtain ⟨k, rfl⟩ : ∃ k : Nat, i = (k : Int) := ⟨i.toNat, by omega⟩
    have hk : k < p.l.length := by omega
    have hin : inP p (k : Int) := by unfold inP; omega
    have hx := PS.get_ok hok k
    obtain ⟨x, hxe⟩ : ∃ x, p.get k = x := ⟨_, rfl⟩
    rw [hxe] at hx
    obtain ⟨hx1, hx2, hx3, hx4, hx5, hx6⟩ := hx
    have hpe : p.l.flatMap prC = (p.set k x).l.flatMap prC := by rw [← hxe, PS.set_get hk]
    rw [hpe]
    refine CW.skip ?_
    refine hK2 _ _ ?_
    refine CW.seq_k fun K6 hK6 => ?_
    have hn := near_in now
    refine CW.drawT 10 mixed (by kernel_rfl) ?_
    refine QW.q rfl rfl (yq_move rfl (by (conv => lhs; whnf) <;> rfl)) ?_
    refine QW.q rfl rfl (yq_nilCheck rfl (by (conv => lhs; whnf) <;> rfl)) ?_
    refine QW.q rfl rfl (yq_fieldAddr rfl (by (conv => lhs; whnf) <;> rfl) tf55_0 ti53) ?_
    refine QW.q rfl rfl (yq_load1 rfl (by (conv => lhs; whnf) <;> rfl) ti53 (by repeat' first | exact List.mem_cons_self .. | apply List.mem_cons_of_mem) (by rfl)) ?_
    refine QW.q rfl rfl (yq_move rfl (by (conv => lhs; whnf) <;> rfl)) ?_
    refine QW.q rfl rfl (yq_move rfl (by (conv => lhs; whnf) <;> rfl)) ?_
    refine QW.q rfl rfl (yq_call rfl rfl (.cons (by (conv => lhs; whnf) <;> rfl) .nil) en32 (fun w hw => near_calls now w)) ?_
    refine QW.q rfl rfl (yq_add rfl (by (conv => lhs; whnf) <;> rfl) (by (conv => lhs; whnf) <;> rfl) (by omega)) ?_
    refine QW.q rfl rfl (yq_index_slice rfl (by (conv => lhs; whnf) <;> rfl) (by (conv => lhs; whnf) <;> rfl) ts53 ti42 (by omega) (by omega)) ?_
    refine QW.q rfl rfl (yq_fieldAddr rfl (by (conv => lhs; whnf) <;> rfl) tf42_2 ti3) ?_
    refine QW.nil ?_
    refine OW.putPr (y := (idleP x now)) rfl rfl rfl (by (conv => lhs; whnf) <;> rfl) (by (conv => lhs; whnf) <;> rfl) ti3 rfl rfl hk (by decide) (by repeat' first | exact Put.head | apply Put.tail) (by rfl) ?_
    refine OW.nil ?_
    refine hK6 _ _ ?_
    refine CW.seq_k fun K7 hK7 => ?_
    refine CW.region ?_
    refine OW.q rfl rfl (yq_assign rfl (by (conv => lhs; whnf) <;> rfl)) ?_
    refine OW.nil ?_
    refine hK7 _ _ ?_
    refine CW.ret ?_
    -- ret (ret)
    rw [actE_in hin, actS_in hk, hxe]
    exact fin1 (Or.inr rfl) rfl ⟨by decide, (by (conv => lhs; whnf) <;> rfl)⟩ (fun w hw => ⟨_, _, rfl, hw, rfl, rfl⟩)

end Go.Proofs.Ytahdekllphehkaa
