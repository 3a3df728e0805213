/- PeersPlay; no statement of the seat is proved here. -/
import Derived.Test.YtahdekllphehkaaA8
set_option linter.unusedVariables false
set_option linter.unusedSimpArgs false
namespace Go.Proofs.Ytahdekllphehkaa
open Go.WL Go.Spec

set_option maxRecDepth 100000 in
set_option maxHeartbeats 1000000 in
theorem peersPlay_calls (m : Int) (l : List Ac) (v : Value) (w : World) (hs : AsAt w v l) : Calls Try.prog 6 #[.int .i64 m, v] w fun e w' => e = .returned (.bool true) ∧ Cl w [] [] w' := by
  obtain ⟨a0, cap0, hv0⟩ := hs.len
  refine calls_of_CW (L := []) Try.func6 rfl (Nat.le_of_ble_eq_true rfl) (Cl.refl _) ?_
  refine CW.seq_k fun K1 hK1 => ?_
  refine CW.region ?_
  refine OW.q rfl rfl (yq_assign rfl (by (conv => lhs; whnf) <;> rfl)) ?_
  refine OW.nil ?_
  refine hK1 _ _ ?_
  refine CW.seq_k fun K2 hK2 => ?_
  refine CW.seq_k fun K3 hK3 => ?_
  refine CW.region ?_
  refine OW.q rfl rfl (yq_move rfl (by (conv => lhs; whnf) <;> rfl)) ?_
  refine OW.q rfl rfl ((yq_len_slice rfl ts28 (by (conv => lhs; whnf); exact hv0))) ?_
  refine OW.q rfl rfl (yq_gtr rfl (by (conv => lhs; whnf) <;> rfl) (by (conv => lhs; whnf) <;> rfl)) ?_
  refine OW.nil ?_
  refine hK3 _ _ ?_
  refine CW.cond_dec (by (conv => lhs; whnf) <;> rfl) (fun hc0 => ?_) (fun hc0 => ?_)
  · refine CW.seq_k fun K4 hK4 => ?_
    refine CW.region ?_
    refine OW.q rfl rfl (yq_call rfl rfl .nil en13 (fun w hw => asks_calls w)) ?_
    refine OW.q rfl rfl (yq_assign rfl (by (conv => lhs; whnf) <;> rfl)) ?_
    refine OW.nil ?_
    refine hK4 _ _ ?_
    refine CW.ret ?_
    refine then_ret ?_
    -- ret (ret)
    exact fin1 (Or.inr rfl) rfl ⟨by decide, (by (conv => lhs; whnf) <;> rfl)⟩ (fun w hw => ⟨rfl, hw.sub (List.nil_sublist _)⟩)
  · refine CW.skip ?_
    refine hK2 _ _ ?_
    refine CW.seq_k fun K5 hK5 => ?_
    refine CW.region ?_
    by_cases hm : m < 1 ∨ 8 < m
    · refine OW.q rfl rfl (yq_move rfl (by (conv => lhs; whnf) <;> rfl)) ?_
      refine OW.q rfl rfl (yq_call rfl rfl (.cons (by (conv => lhs; whnf) <;> rfl) .nil) en14 (fun w hw => new_bad m w hm)) ?_
      refine OW.q rfl rfl (yq_move rfl (by (conv => lhs; whnf) <;> rfl)) ?_
      refine OW.q rfl rfl (yq_extract rfl (by (conv => lhs; whnf) <;> rfl) rfl) ?_
      refine OW.q rfl rfl (yq_extract rfl (by (conv => lhs; whnf) <;> rfl) rfl) ?_
      refine OW.q rfl rfl (yq_assign rfl (by (conv => lhs; whnf) <;> rfl)) ?_
      refine OW.q rfl rfl (yq_assign rfl (by (conv => lhs; whnf) <;> rfl)) ?_
      refine OW.nil ?_
      refine hK5 _ _ ?_
      refine CW.seq_k fun K6 hK6 => ?_
      refine CW.region ?_
      refine OW.q rfl rfl (yq_move rfl (by (conv => lhs; whnf) <;> rfl)) ?_
      refine OW.q rfl rfl (yq_call rfl rfl (.cons (by (conv => lhs; whnf) <;> rfl) .nil) en22 (fun w hw => rnew_bad m w hm)) ?_
      refine OW.q rfl rfl (yq_move rfl (by (conv => lhs; whnf) <;> rfl)) ?_
      refine OW.q rfl rfl (yq_extract rfl (by (conv => lhs; whnf) <;> rfl) rfl) ?_
      refine OW.q rfl rfl (yq_extract rfl (by (conv => lhs; whnf) <;> rfl) rfl) ?_
      refine OW.q rfl rfl (yq_assign rfl (by (conv => lhs; whnf) <;> rfl)) ?_
      refine OW.q rfl rfl (yq_assign rfl (by (conv => lhs; whnf) <;> rfl)) ?_
      refine OW.nil ?_
      refine hK6 _ _ ?_
      refine CW.seq_k fun K7 hK7 => ?_
      refine CW.seq_k fun K8 hK8 => ?_
      refine CW.region ?_
      refine OW.q rfl rfl (yq_move rfl (by (conv => lhs; whnf) <;> rfl)) ?_
      refine OW.q rfl rfl (yq_move rfl (by (conv => lhs; whnf) <;> rfl)) ?_
      refine OW.q rfl rfl ((yq_neq rfl (by (conv => lhs; whnf) <;> rfl) (by (conv => lhs; whnf) <;> rfl)).to (v' := .bool false) (by simp)) ?_
      refine OW.q rfl rfl (yq_move rfl (by (conv => lhs; whnf) <;> rfl)) ?_
      refine OW.q rfl rfl (yq_move rfl (by (conv => lhs; whnf) <;> rfl)) ?_
      refine OW.q rfl rfl ((yq_neq rfl (by (conv => lhs; whnf) <;> rfl) (by (conv => lhs; whnf) <;> rfl)).to (v' := .bool true) (by simp)) ?_
      refine OW.q rfl rfl (yq_pick rfl (by (conv => lhs; whnf) <;> rfl) (by (conv => lhs; whnf) <;> rfl)) ?_
      refine OW.nil ?_
      refine hK8 _ _ ?_
      refine CW.cond_t (by (conv => lhs; whnf) <;> rfl) ?_
      refine CW.seq_k fun K9 hK9 => ?_
      refine CW.region ?_
      refine OW.q rfl rfl (yq_move rfl (by (conv => lhs; whnf) <;> rfl)) ?_
      refine OW.q rfl rfl (yq_move rfl (by (conv => lhs; whnf) <;> rfl)) ?_
      refine OW.q rfl rfl ((yq_eql rfl (by (conv => lhs; whnf) <;> rfl) (by (conv => lhs; whnf) <;> rfl)).to (v' := .bool true) (by simp)) ?_
      refine OW.q rfl rfl (yq_move rfl (by (conv => lhs; whnf) <;> rfl)) ?_
      refine OW.q rfl rfl (yq_move rfl (by (conv => lhs; whnf) <;> rfl)) ?_
      refine OW.q rfl rfl ((yq_eql_ptnil rfl (by (conv => lhs; whnf) <;> rfl) (by (conv => lhs; whnf) <;> rfl) (by kernel_rfl)).to (v' := .bool true) rfl) ?_
      refine OW.q rfl rfl (yq_pick rfl (by (conv => lhs; whnf) <;> rfl) (by (conv => lhs; whnf) <;> rfl)) ?_
      refine OW.q rfl rfl (yq_move rfl (by (conv => lhs; whnf) <;> rfl)) ?_
      refine OW.q rfl rfl (yq_call rfl rfl .nil en13 (fun w hw => asks_calls w)) ?_
      refine OW.q rfl rfl (yq_pick rfl (by (conv => lhs; whnf) <;> rfl) (by (conv => lhs; whnf) <;> rfl)) ?_
      refine OW.q rfl rfl (yq_assign rfl (by (conv => lhs; whnf) <;> rfl)) ?_
      refine OW.nil ?_
      refine hK9 _ _ ?_
      refine CW.ret ?_
      refine then_ret ?_
      -- ret (ret)
      exact fin1 (Or.inr rfl) rfl ⟨by decide, (by (conv => lhs; whnf) <;> rfl)⟩ (fun w hw => ⟨rfl, hw.sub (List.nil_sublist _)⟩)
    · obtain ⟨n, rfl⟩ : ∃ n : Nat, m = (n : Int) := ⟨m.toNat, by omega⟩
      have hn1 : 1 ≤ n := by omega
      have hn8 : n ≤ 8 := by omega
      refine OW.q rfl rfl (yq_move rfl (by (conv => lhs; whnf) <;> rfl)) ?_
      refine OW.calln rfl rfl rfl (by (conv => lhs; whnf) <;> rfl) (.cons (by (conv => lhs; whnf) <;> rfl) .nil) en14 (fun w hw => new_ok n w hn1 hn8) ?_
      rintro _ _ ⟨b, b2, rfl, rfl⟩
      refine OW.q rfl rfl (yq_move rfl (by (conv => lhs; whnf) <;> rfl)) ?_
      refine OW.q rfl rfl (yq_extract rfl (by (conv => lhs; whnf) <;> rfl) rfl) ?_
      refine OW.q rfl rfl (yq_extract rfl (by (conv => lhs; whnf) <;> rfl) rfl) ?_
      refine OW.q rfl rfl (yq_assign rfl (by (conv => lhs; whnf) <;> rfl)) ?_
      refine OW.q rfl rfl (yq_assign rfl (by (conv => lhs; whnf) <;> rfl)) ?_
      refine OW.nil ?_
      refine hK5 _ _ ?_
      refine CW.seq_k fun K10 hK10 => ?_
      refine CW.region ?_
      refine OW.q rfl rfl (yq_move rfl (by (conv => lhs; whnf) <;> rfl)) ?_
      refine OW.calln rfl rfl rfl (by (conv => lhs; whnf) <;> rfl) (.cons (by (conv => lhs; whnf) <;> rfl) .nil) en22 (fun w hw => rnew_ok n w hn1 hn8) ?_
      rintro _ _ ⟨c, c2, cap, rfl, rfl⟩
      refine OW.q rfl rfl (yq_move rfl (by (conv => lhs; whnf) <;> rfl)) ?_
      refine OW.q rfl rfl (yq_extract rfl (by (conv => lhs; whnf) <;> rfl) rfl) ?_
      refine OW.q rfl rfl (yq_extract rfl (by (conv => lhs; whnf) <;> rfl) rfl) ?_
      refine OW.q rfl rfl (yq_assign rfl (by (conv => lhs; whnf) <;> rfl)) ?_
      refine OW.q rfl rfl (yq_assign rfl (by (conv => lhs; whnf) <;> rfl)) ?_
      refine OW.nil ?_
      refine hK10 _ _ ?_
      refine CW.seq_k fun K11 hK11 => ?_
      refine CW.seq_k fun K12 hK12 => ?_
      refine CW.region ?_
      refine OW.q rfl rfl (yq_move rfl (by (conv => lhs; whnf) <;> rfl)) ?_
      refine OW.q rfl rfl (yq_move rfl (by (conv => lhs; whnf) <;> rfl)) ?_
      refine OW.q rfl rfl ((yq_neq rfl (by (conv => lhs; whnf) <;> rfl) (by (conv => lhs; whnf) <;> rfl)).to (v' := .bool false) (by simp)) ?_
      refine OW.q rfl rfl (yq_move rfl (by (conv => lhs; whnf) <;> rfl)) ?_
      refine OW.q rfl rfl (yq_move rfl (by (conv => lhs; whnf) <;> rfl)) ?_
      refine OW.q rfl rfl ((yq_neq rfl (by (conv => lhs; whnf) <;> rfl) (by (conv => lhs; whnf) <;> rfl)).to (v' := .bool false) (by simp)) ?_
      refine OW.q rfl rfl (yq_pick rfl (by (conv => lhs; whnf) <;> rfl) (by (conv => lhs; whnf) <;> rfl)) ?_
      refine OW.nil ?_
      refine hK12 _ _ ?_
      refine CW.cond_f (by (conv => lhs; whnf) <;> rfl) ?_
      refine CW.skip ?_
      refine hK11 _ _ ?_
      refine CW.seq_k fun K13 hK13 => ?_
      refine CW.seq_k fun K14 hK14 => ?_
      refine CW.perm permG ?_
      refine CW.region ?_
      refine OW.q rfl rfl (yq_assign rfl (by (conv => lhs; whnf) <;> rfl)) ?_
      refine OW.nil ?_
      refine hK14 _ _ ?_
      refine CW.block ?_
      refine CW.loop (σ := Nat × PS × Nat × Nat) (fun z ρ L => match z with | (i, p, c2, cap) => Has ρ [(1, v), (5, .pointer (some ⟨b, 0, none⟩)), (7, .pointer (some ⟨c, 0, none⟩)), (9, .int .i64 (i : Int))] ∧ i ≤ l.length ∧ p.ok ∧ L = [.blk b [.slice (some ⟨b2, 0, none⟩) (p).l.length n, .int .i64 ((p).last : Int)] 55 (0, 0), .row (some b2) n (p).l.length 42 4 ((p).l.flatMap prC), .blk c [.slice (some ⟨c2, 0, none⟩) (p).l.length cap, .int .i64 ((p).last : Int)] 60 (0, 0), .row (some c2) cap (p).l.length 61 4 ((p).l.flatMap prC)]) (fun z => l.length - z.1) ((0, PS.new n, c2, cap)) ?_ ?_
      · exact ⟨Has.mk ⟨(by (conv => lhs; whnf) <;> rfl), (by (conv => lhs; whnf) <;> rfl), (by (conv => lhs; whnf) <;> rfl), (by (conv => lhs; whnf) <;> rfl), trivial⟩, by omega, PS.new_ok hn1 hn8, by rw [new_len]; rfl⟩
      · rintro ⟨i, p, c2, cap⟩ _ _ ⟨⟨ρ', rfl⟩, hi, hok, rfl⟩
        refine CW.seq_k fun K15 hK15 => ?_
        refine CW.seq_k fun K16 hK16 => ?_
        refine CW.region ?_
        refine OW.q rfl rfl (yq_move rfl (by (conv => lhs; whnf) <;> rfl)) ?_
        refine OW.q rfl rfl (yq_move rfl (by (conv => lhs; whnf) <;> rfl)) ?_
        refine OW.q rfl rfl ((yq_len_slice rfl ts28 (by (conv => lhs; whnf); exact hv0))) ?_
        refine OW.q rfl rfl (yq_lss rfl (by (conv => lhs; whnf) <;> rfl) (by (conv => lhs; whnf) <;> rfl)) ?_
        refine OW.nil ?_
        refine hK16 _ _ ?_
        refine CW.cond_dec (by (conv => lhs; whnf) <;> rfl) (fun hc3 => ?_) (fun hc3 => ?_)
        · have hil : i < l.length := by omega
          have hl0 : l ≠ [] := fun e => by rw [e] at hil; simp at hil
          obtain ⟨bA, oA, cA, hvA, hoks, hcell⟩ := hs.place hl0
          obtain ⟨x, hx⟩ : ∃ x, l[i]? = some x := ⟨_, List.getElem?_eq_getElem hil⟩
          obtain ⟨ni, nb, hnv⟩ := nextV_shape p x.nw
          refine CW.skip ?_
          refine hK15 _ _ ?_
          refine CW.seq_k fun K17 hK17 => ?_
          refine CW.block ?_
          refine CW.seq_k fun K18 hK18 => ?_
          refine CW.region ?_
          refine OW.q rfl rfl (yq_move rfl (by (conv => lhs; whnf) <;> rfl)) ?_
          refine OW.q rfl rfl (yq_move rfl (by (conv => lhs; whnf) <;> rfl)) ?_
          refine OW.q rfl rfl ((yq_index_slice rfl (by (conv => lhs; whnf); exact hvA) (by (conv => lhs; whnf) <;> rfl) ts28 ti35 (by omega) (by omega))) ?_
          refine OW.q rfl rfl (yq_load_c (v := .agg (acC x).toArray) rfl (by (conv => lhs; whnf) <;> rfl) (fun w hw => run_load_agg ti35 (fun j u hu => cell_keep hw (hcell i x j u hx hu) (by simp)))) ?_
          refine OW.alloc rfl rfl rfl tz35 (fun b10 => ?_)
          refine OW.store' rfl rfl rfl (by (conv => lhs; whnf) <;> rfl) (by (conv => lhs; whnf) <;> rfl) (vs := acC x) ti35 rfl (by intro u hu; simp only [acC, List.mem_cons, List.not_mem_nil, or_false] at hu; rcases hu with rfl | rfl | rfl | rfl <;> rfl) (by repeat' first | exact Put.head | apply Put.tail) (cs' := acC x) (by exact spl_all _ _ rfl) (by exact Nat.le_of_ble_eq_true rfl) ?_
          refine OW.nil ?_
          refine hK18 _ _ ?_
          refine CW.seq_k fun K19 hK19 => ?_
          refine CW.region ?_
          refine OW.q rfl rfl (yq_assign rfl (by (conv => lhs; whnf) <;> rfl)) ?_
          refine OW.nil ?_
          refine hK19 _ _ ?_
          refine CW.seq_k fun K20 hK20 => ?_
          refine CW.seq_k fun K21 hK21 => ?_
          refine CW.region ?_
          refine OW.q rfl rfl (yq_fieldAddr rfl (by (conv => lhs; whnf) <;> rfl) tf35_0 ti5) ?_
          refine OW.q rfl rfl (yq_load1 (v := U8 x.kd) rfl (by (conv => lhs; whnf) <;> rfl) ti5 (by repeat' first | exact List.mem_cons_self .. | apply List.mem_cons_of_mem) (by rfl)) ?_
          refine OW.q rfl rfl (yq_rem_u8 (b := 8) rfl (by (conv => lhs; whnf) <;> rfl) (by (conv => lhs; whnf) <;> rfl) (by decide)) ?_
          refine OW.nil ?_
          refine hK21 _ _ ?_
          refine CW.cutK (fun ρ L => ∃ (p2 : PS) (c2 cap : Nat), Has ρ [(1, v), (5, .pointer (some ⟨b, 0, none⟩)), (7, .pointer (some ⟨c, 0, none⟩)), (9, .int .i64 (i : Int)), (10, .pointer (some ⟨b10, 0, none⟩)), (11, .bool true)] ∧ p2.ok ∧ L.Perm [.blk b [.slice (some ⟨b2, 0, none⟩) (p2).l.length n, .int .i64 ((p2).last : Int)] 55 (0, 0), .row (some b2) n (p2).l.length 42 4 ((p2).l.flatMap prC), .blk c [.slice (some ⟨c2, 0, none⟩) (p2).l.length cap, .int .i64 ((p2).last : Int)] 60 (0, 0), .row (some c2) cap (p2).l.length 61 4 ((p2).l.flatMap prC), .blk b10 (acC x) 35 (0, 0)]) ?_ ?_
          · refine CW.block ?_
            refine CW.seq_k fun K22 hK22 => ?_
            refine CW.region ?_
            refine OW.q rfl rfl (yq_eql rfl (by (conv => lhs; whnf) <;> rfl) (by (conv => lhs; whnf) <;> rfl)) ?_
            refine OW.q rfl rfl (yq_assign rfl (by (conv => lhs; whnf) <;> rfl)) ?_
            refine OW.nil ?_
            refine hK22 _ _ ?_
            refine CW.cond_dec (by (conv => lhs; whnf) <;> rfl) (fun hc6 => ?_) (fun hc6 => ?_)
            · refine CW.held ([.blk b10 (acC x) 35 (0, 0)]) mixed ?_
              refine HW.take 0 rfl (by kernel_rfl) (by kernel_rfl) (by kernel_rfl) rfl rfl (by repeat' first | exact List.Sublist.refl _ | exact List.nil_sublist _ | apply List.Sublist.cons_cons | apply List.Sublist.cons) (yv_of_yq rfl (yq_move rfl (by (conv => lhs; whnf) <;> rfl))) ?_
              refine HW.take 1 rfl (by kernel_rfl) (by kernel_rfl) (by kernel_rfl) rfl rfl (by repeat' first | exact List.Sublist.refl _ | exact List.nil_sublist _ | apply List.Sublist.cons_cons | apply List.Sublist.cons) (yv_of_yq rfl (yq_fieldAddr rfl (by (conv => lhs; whnf) <;> rfl) tf35_1 ti3)) ?_
              refine HW.take 2 rfl (by kernel_rfl) (by kernel_rfl) (by kernel_rfl) rfl rfl (by repeat' first | exact List.Sublist.refl _ | exact List.nil_sublist _ | apply List.Sublist.cons_cons | apply List.Sublist.cons) (yv_of_yq rfl (yq_load1 (v := .int .i64 x.ix) rfl (by (conv => lhs; whnf) <;> rfl) ti3 (by repeat' first | exact List.mem_cons_self .. | apply List.mem_cons_of_mem) (by rfl))) ?_
              refine HW.take 4 rfl (by kernel_rfl) (by kernel_rfl) (by kernel_rfl) rfl rfl (by repeat' first | exact List.Sublist.refl _ | exact List.nil_sublist _ | apply List.Sublist.cons_cons | apply List.Sublist.cons) (yv_of_yq rfl (yq_move rfl (by (conv => lhs; whnf) <;> rfl))) ?_
              refine HW.take 5 rfl (by kernel_rfl) (by kernel_rfl) (by kernel_rfl) rfl rfl (by repeat' first | exact List.Sublist.refl _ | exact List.nil_sublist _ | apply List.Sublist.cons_cons | apply List.Sublist.cons) (yv_of_yq rfl (yq_fieldAddr rfl (by (conv => lhs; whnf) <;> rfl) tf35_1 ti3)) ?_
              refine HW.take 6 rfl (by kernel_rfl) (by kernel_rfl) (by kernel_rfl) rfl rfl (by repeat' first | exact List.Sublist.refl _ | exact List.nil_sublist _ | apply List.Sublist.cons_cons | apply List.Sublist.cons) (yv_of_yq rfl (yq_load1 (v := .int .i64 x.ix) rfl (by (conv => lhs; whnf) <;> rfl) ti3 (by repeat' first | exact List.mem_cons_self .. | apply List.mem_cons_of_mem) (by rfl))) ?_
              refine HW.one 3 (by kernel_rfl) rfl ?_
              refine OW.perm perm12 ?_
              refine OW.callB rfl rfl rfl (by (conv => lhs; whnf) <;> rfl) (.cons (by (conv => lhs; whnf) <;> rfl) (.cons (by (conv => lhs; whnf) <;> rfl) .nil)) en15 (fun w1 hw1 => good_calls p x.ix b b2 n hok hw1) ?_
              rintro _ _ ⟨rfl, rfl⟩
              refine OW.nil ⟨rfl, (by repeat' first | exact List.Sublist.refl _ | exact List.nil_sublist _ | apply List.Sublist.cons_cons | apply List.Sublist.cons), ?_⟩
              refine HW.one 7 (by kernel_rfl) rfl ?_
              refine OW.perm perm32 ?_
              refine OW.callB rfl rfl rfl (by (conv => lhs; whnf) <;> rfl) (.cons (by (conv => lhs; whnf) <;> rfl) (.cons (by (conv => lhs; whnf) <;> rfl) .nil)) en23 (fun w1 hw1 => rgood_calls p x.ix c c2 cap hok hw1) ?_
              rintro _ _ ⟨rfl, c2b, capb, rfl⟩
              refine OW.nil ⟨rfl, (by repeat' first | exact List.Sublist.refl _ | exact List.nil_sublist _ | apply List.Sublist.cons_cons | apply List.Sublist.cons), ?_⟩
              refine HW.take 8 rfl (by kernel_rfl) (by kernel_rfl) (by kernel_rfl) rfl rfl (by repeat' first | exact List.Sublist.refl _ | exact List.nil_sublist _ | apply List.Sublist.cons_cons | apply List.Sublist.cons) (yv_of_yq rfl ((yq_eql rfl (by (conv => lhs; whnf) <;> rfl) (by (conv => lhs; whnf) <;> rfl)).to (v' := .bool true) (by simp))) ?_
              refine HW.take 9 rfl (by kernel_rfl) (by kernel_rfl) (by kernel_rfl) rfl rfl (by repeat' first | exact List.Sublist.refl _ | exact List.nil_sublist _ | apply List.Sublist.cons_cons | apply List.Sublist.cons) (yv_of_yq rfl (yq_assign rfl (by (conv => lhs; whnf) <;> rfl))) ?_
              refine HW.done (by kernel_rfl) ?_
              exact ⟨actS goodP p x.ix, c2b, capb, Has.mk ⟨(by (conv => lhs; whnf) <;> rfl), (by (conv => lhs; whnf) <;> rfl), (by (conv => lhs; whnf) <;> rfl), (by (conv => lhs; whnf) <;> rfl), (by (conv => lhs; whnf) <;> rfl), (by (conv => lhs; whnf) <;> rfl), trivial⟩, actS_ok hok _ fun _ h => good_ok h, by rw [actS_len, actS_last]; exact permG⟩
            · refine CW.seq_k fun K23 hK23 => ?_
              refine CW.region ?_
              refine OW.q rfl rfl (yq_eql rfl (by (conv => lhs; whnf) <;> rfl) (by (conv => lhs; whnf) <;> rfl)) ?_
              refine OW.q rfl rfl (yq_assign rfl (by (conv => lhs; whnf) <;> rfl)) ?_
              refine OW.nil ?_
              refine hK23 _ _ ?_
              refine CW.cond_dec (by (conv => lhs; whnf) <;> rfl) (fun hc7 => ?_) (fun hc7 => ?_)
              · refine CW.held ([.blk b10 (acC x) 35 (0, 0)]) mixed ?_
                refine HW.take 0 rfl (by kernel_rfl) (by kernel_rfl) (by kernel_rfl) rfl rfl (by repeat' first | exact List.Sublist.refl _ | exact List.nil_sublist _ | apply List.Sublist.cons_cons | apply List.Sublist.cons) (yv_of_yq rfl (yq_move rfl (by (conv => lhs; whnf) <;> rfl))) ?_
                refine HW.take 1 rfl (by kernel_rfl) (by kernel_rfl) (by kernel_rfl) rfl rfl (by repeat' first | exact List.Sublist.refl _ | exact List.nil_sublist _ | apply List.Sublist.cons_cons | apply List.Sublist.cons) (yv_of_yq rfl (yq_fieldAddr rfl (by (conv => lhs; whnf) <;> rfl) tf35_1 ti3)) ?_
                refine HW.take 2 rfl (by kernel_rfl) (by kernel_rfl) (by kernel_rfl) rfl rfl (by repeat' first | exact List.Sublist.refl _ | exact List.nil_sublist _ | apply List.Sublist.cons_cons | apply List.Sublist.cons) (yv_of_yq rfl (yq_load1 (v := .int .i64 x.ix) rfl (by (conv => lhs; whnf) <;> rfl) ti3 (by repeat' first | exact List.mem_cons_self .. | apply List.mem_cons_of_mem) (by rfl))) ?_
                refine HW.take 3 rfl (by kernel_rfl) (by kernel_rfl) (by kernel_rfl) rfl rfl (by repeat' first | exact List.Sublist.refl _ | exact List.nil_sublist _ | apply List.Sublist.cons_cons | apply List.Sublist.cons) (yv_of_yq rfl (yq_fieldAddr rfl (by (conv => lhs; whnf) <;> rfl) tf35_2 ti3)) ?_
                refine HW.take 4 rfl (by kernel_rfl) (by kernel_rfl) (by kernel_rfl) rfl rfl (by repeat' first | exact List.Sublist.refl _ | exact List.nil_sublist _ | apply List.Sublist.cons_cons | apply List.Sublist.cons) (yv_of_yq rfl (yq_load1 (v := .int .i64 x.nw) rfl (by (conv => lhs; whnf) <;> rfl) ti3 (by repeat' first | exact List.mem_cons_self .. | apply List.mem_cons_of_mem) (by rfl))) ?_
                refine HW.take 5 rfl (by kernel_rfl) (by kernel_rfl) (by kernel_rfl) rfl rfl (by repeat' first | exact List.Sublist.refl _ | exact List.nil_sublist _ | apply List.Sublist.cons_cons | apply List.Sublist.cons) (yv_of_yq rfl (yq_fieldAddr rfl (by (conv => lhs; whnf) <;> rfl) tf35_3 ti5)) ?_
                refine HW.take 6 rfl (by kernel_rfl) (by kernel_rfl) (by kernel_rfl) rfl rfl (by repeat' first | exact List.Sublist.refl _ | exact List.nil_sublist _ | apply List.Sublist.cons_cons | apply List.Sublist.cons) (yv_of_yq rfl (yq_load1 (v := U8 x.dr) rfl (by (conv => lhs; whnf) <;> rfl) ti5 (by repeat' first | exact List.mem_cons_self .. | apply List.mem_cons_of_mem) (by rfl))) ?_
                refine HW.take 8 rfl (by kernel_rfl) (by kernel_rfl) (by kernel_rfl) rfl rfl (by repeat' first | exact List.Sublist.refl _ | exact List.nil_sublist _ | apply List.Sublist.cons_cons | apply List.Sublist.cons) (yv_of_yq rfl (yq_move rfl (by (conv => lhs; whnf) <;> rfl))) ?_
                refine HW.take 9 rfl (by kernel_rfl) (by kernel_rfl) (by kernel_rfl) rfl rfl (by repeat' first | exact List.Sublist.refl _ | exact List.nil_sublist _ | apply List.Sublist.cons_cons | apply List.Sublist.cons) (yv_of_yq rfl (yq_fieldAddr rfl (by (conv => lhs; whnf) <;> rfl) tf35_1 ti3)) ?_
                refine HW.take 10 rfl (by kernel_rfl) (by kernel_rfl) (by kernel_rfl) rfl rfl (by repeat' first | exact List.Sublist.refl _ | exact List.nil_sublist _ | apply List.Sublist.cons_cons | apply List.Sublist.cons) (yv_of_yq rfl (yq_load1 (v := .int .i64 x.ix) rfl (by (conv => lhs; whnf) <;> rfl) ti3 (by repeat' first | exact List.mem_cons_self .. | apply List.mem_cons_of_mem) (by rfl))) ?_
                refine HW.take 11 rfl (by kernel_rfl) (by kernel_rfl) (by kernel_rfl) rfl rfl (by repeat' first | exact List.Sublist.refl _ | exact List.nil_sublist _ | apply List.Sublist.cons_cons | apply List.Sublist.cons) (yv_of_yq rfl (yq_fieldAddr rfl (by (conv => lhs; whnf) <;> rfl) tf35_2 ti3)) ?_
                refine HW.take 12 rfl (by kernel_rfl) (by kernel_rfl) (by kernel_rfl) rfl rfl (by repeat' first | exact List.Sublist.refl _ | exact List.nil_sublist _ | apply List.Sublist.cons_cons | apply List.Sublist.cons) (yv_of_yq rfl (yq_load1 (v := .int .i64 x.nw) rfl (by (conv => lhs; whnf) <;> rfl) ti3 (by repeat' first | exact List.mem_cons_self .. | apply List.mem_cons_of_mem) (by rfl))) ?_
                refine HW.take 13 rfl (by kernel_rfl) (by kernel_rfl) (by kernel_rfl) rfl rfl (by repeat' first | exact List.Sublist.refl _ | exact List.nil_sublist _ | apply List.Sublist.cons_cons | apply List.Sublist.cons) (yv_of_yq rfl (yq_fieldAddr rfl (by (conv => lhs; whnf) <;> rfl) tf35_3 ti5)) ?_
                refine HW.take 14 rfl (by kernel_rfl) (by kernel_rfl) (by kernel_rfl) rfl rfl (by repeat' first | exact List.Sublist.refl _ | exact List.nil_sublist _ | apply List.Sublist.cons_cons | apply List.Sublist.cons) (yv_of_yq rfl (yq_load1 (v := U8 x.dr) rfl (by (conv => lhs; whnf) <;> rfl) ti5 (by repeat' first | exact List.mem_cons_self .. | apply List.mem_cons_of_mem) (by rfl))) ?_
                refine HW.one 7 (by kernel_rfl) rfl ?_
                refine OW.perm perm12 ?_
                refine OW.callB rfl rfl rfl (by (conv => lhs; whnf) <;> rfl) (.cons (by (conv => lhs; whnf) <;> rfl) (.cons (by (conv => lhs; whnf) <;> rfl) (.cons (by (conv => lhs; whnf) <;> rfl) (.cons (by (conv => lhs; whnf) <;> rfl) .nil)))) en16 (fun w1 hw1 => late_calls p x.ix x.nw x.dr b b2 n hok hw1) ?_
                rintro _ _ ⟨rfl, rfl⟩
                refine OW.nil ⟨rfl, (by repeat' first | exact List.Sublist.refl _ | exact List.nil_sublist _ | apply List.Sublist.cons_cons | apply List.Sublist.cons), ?_⟩
                refine HW.one 15 (by kernel_rfl) rfl ?_
                refine OW.perm perm32 ?_
                refine OW.callB rfl rfl rfl (by (conv => lhs; whnf) <;> rfl) (.cons (by (conv => lhs; whnf) <;> rfl) (.cons (by (conv => lhs; whnf) <;> rfl) (.cons (by (conv => lhs; whnf) <;> rfl) (.cons (by (conv => lhs; whnf) <;> rfl) .nil)))) en24 (fun w1 hw1 => rlate_calls p x.ix x.nw x.dr c c2 cap hok hw1) ?_
                rintro _ _ ⟨rfl, c2b, capb, rfl⟩
                refine OW.nil ⟨rfl, (by repeat' first | exact List.Sublist.refl _ | exact List.nil_sublist _ | apply List.Sublist.cons_cons | apply List.Sublist.cons), ?_⟩
                refine HW.take 16 rfl (by kernel_rfl) (by kernel_rfl) (by kernel_rfl) rfl rfl (by repeat' first | exact List.Sublist.refl _ | exact List.nil_sublist _ | apply List.Sublist.cons_cons | apply List.Sublist.cons) (yv_of_yq rfl ((yq_eql rfl (by (conv => lhs; whnf) <;> rfl) (by (conv => lhs; whnf) <;> rfl)).to (v' := .bool true) (by simp))) ?_
                refine HW.take 17 rfl (by kernel_rfl) (by kernel_rfl) (by kernel_rfl) rfl rfl (by repeat' first | exact List.Sublist.refl _ | exact List.nil_sublist _ | apply List.Sublist.cons_cons | apply List.Sublist.cons) (yv_of_yq rfl (yq_assign rfl (by (conv => lhs; whnf) <;> rfl))) ?_
                refine HW.done (by kernel_rfl) ?_
                exact ⟨actS (fun y => lateP y x.nw x.dr.toNat) p x.ix, c2b, capb, Has.mk ⟨(by (conv => lhs; whnf) <;> rfl), (by (conv => lhs; whnf) <;> rfl), (by (conv => lhs; whnf) <;> rfl), (by (conv => lhs; whnf) <;> rfl), (by (conv => lhs; whnf) <;> rfl), (by (conv => lhs; whnf) <;> rfl), trivial⟩, actS_ok hok _ fun _ h => late_ok h _ _, by rw [actS_len, actS_last]; exact permG⟩
              · refine CW.seq_k fun K24 hK24 => ?_
                refine CW.region ?_
                refine OW.q rfl rfl (yq_eql rfl (by (conv => lhs; whnf) <;> rfl) (by (conv => lhs; whnf) <;> rfl)) ?_
                refine OW.q rfl rfl (yq_assign rfl (by (conv => lhs; whnf) <;> rfl)) ?_
                refine OW.nil ?_
                refine hK24 _ _ ?_
                refine CW.cond_dec (by (conv => lhs; whnf) <;> rfl) (fun hc8 => ?_) (fun hc8 => ?_)
                · refine CW.held ([.blk b10 (acC x) 35 (0, 0)]) mixed ?_
                  refine HW.take 0 rfl (by kernel_rfl) (by kernel_rfl) (by kernel_rfl) rfl rfl (by repeat' first | exact List.Sublist.refl _ | exact List.nil_sublist _ | apply List.Sublist.cons_cons | apply List.Sublist.cons) (yv_of_yq rfl (yq_move rfl (by (conv => lhs; whnf) <;> rfl))) ?_
                  refine HW.take 1 rfl (by kernel_rfl) (by kernel_rfl) (by kernel_rfl) rfl rfl (by repeat' first | exact List.Sublist.refl _ | exact List.nil_sublist _ | apply List.Sublist.cons_cons | apply List.Sublist.cons) (yv_of_yq rfl (yq_fieldAddr rfl (by (conv => lhs; whnf) <;> rfl) tf35_1 ti3)) ?_
                  refine HW.take 2 rfl (by kernel_rfl) (by kernel_rfl) (by kernel_rfl) rfl rfl (by repeat' first | exact List.Sublist.refl _ | exact List.nil_sublist _ | apply List.Sublist.cons_cons | apply List.Sublist.cons) (yv_of_yq rfl (yq_load1 (v := .int .i64 x.ix) rfl (by (conv => lhs; whnf) <;> rfl) ti3 (by repeat' first | exact List.mem_cons_self .. | apply List.mem_cons_of_mem) (by rfl))) ?_
                  refine HW.take 3 rfl (by kernel_rfl) (by kernel_rfl) (by kernel_rfl) rfl rfl (by repeat' first | exact List.Sublist.refl _ | exact List.nil_sublist _ | apply List.Sublist.cons_cons | apply List.Sublist.cons) (yv_of_yq rfl (yq_fieldAddr rfl (by (conv => lhs; whnf) <;> rfl) tf35_2 ti3)) ?_
                  refine HW.take 4 rfl (by kernel_rfl) (by kernel_rfl) (by kernel_rfl) rfl rfl (by repeat' first | exact List.Sublist.refl _ | exact List.nil_sublist _ | apply List.Sublist.cons_cons | apply List.Sublist.cons) (yv_of_yq rfl (yq_load1 (v := .int .i64 x.nw) rfl (by (conv => lhs; whnf) <;> rfl) ti3 (by repeat' first | exact List.mem_cons_self .. | apply List.mem_cons_of_mem) (by rfl))) ?_
                  refine HW.take 6 rfl (by kernel_rfl) (by kernel_rfl) (by kernel_rfl) rfl rfl (by repeat' first | exact List.Sublist.refl _ | exact List.nil_sublist _ | apply List.Sublist.cons_cons | apply List.Sublist.cons) (yv_of_yq rfl (yq_move rfl (by (conv => lhs; whnf) <;> rfl))) ?_
                  refine HW.take 7 rfl (by kernel_rfl) (by kernel_rfl) (by kernel_rfl) rfl rfl (by repeat' first | exact List.Sublist.refl _ | exact List.nil_sublist _ | apply List.Sublist.cons_cons | apply List.Sublist.cons) (yv_of_yq rfl (yq_fieldAddr rfl (by (conv => lhs; whnf) <;> rfl) tf35_1 ti3)) ?_
                  refine HW.take 8 rfl (by kernel_rfl) (by kernel_rfl) (by kernel_rfl) rfl rfl (by repeat' first | exact List.Sublist.refl _ | exact List.nil_sublist _ | apply List.Sublist.cons_cons | apply List.Sublist.cons) (yv_of_yq rfl (yq_load1 (v := .int .i64 x.ix) rfl (by (conv => lhs; whnf) <;> rfl) ti3 (by repeat' first | exact List.mem_cons_self .. | apply List.mem_cons_of_mem) (by rfl))) ?_
                  refine HW.take 9 rfl (by kernel_rfl) (by kernel_rfl) (by kernel_rfl) rfl rfl (by repeat' first | exact List.Sublist.refl _ | exact List.nil_sublist _ | apply List.Sublist.cons_cons | apply List.Sublist.cons) (yv_of_yq rfl (yq_fieldAddr rfl (by (conv => lhs; whnf) <;> rfl) tf35_2 ti3)) ?_
                  refine HW.take 10 rfl (by kernel_rfl) (by kernel_rfl) (by kernel_rfl) rfl rfl (by repeat' first | exact List.Sublist.refl _ | exact List.nil_sublist _ | apply List.Sublist.cons_cons | apply List.Sublist.cons) (yv_of_yq rfl (yq_load1 (v := .int .i64 x.nw) rfl (by (conv => lhs; whnf) <;> rfl) ti3 (by repeat' first | exact List.mem_cons_self .. | apply List.mem_cons_of_mem) (by rfl))) ?_
                  refine HW.one 5 (by kernel_rfl) rfl ?_
                  refine OW.perm perm12 ?_
                  refine OW.callB rfl rfl rfl (by (conv => lhs; whnf) <;> rfl) (.cons (by (conv => lhs; whnf) <;> rfl) (.cons (by (conv => lhs; whnf) <;> rfl) (.cons (by (conv => lhs; whnf) <;> rfl) .nil))) en17 (fun w1 hw1 => bad_calls p x.ix x.nw b b2 n hok hw1) ?_
                  rintro _ _ ⟨rfl, rfl⟩
                  refine OW.nil ⟨rfl, (by repeat' first | exact List.Sublist.refl _ | exact List.nil_sublist _ | apply List.Sublist.cons_cons | apply List.Sublist.cons), ?_⟩
                  refine HW.one 11 (by kernel_rfl) rfl ?_
                  refine OW.perm perm32 ?_
                  refine OW.callB rfl rfl rfl (by (conv => lhs; whnf) <;> rfl) (.cons (by (conv => lhs; whnf) <;> rfl) (.cons (by (conv => lhs; whnf) <;> rfl) (.cons (by (conv => lhs; whnf) <;> rfl) .nil))) en25 (fun w1 hw1 => rbad_calls p x.ix x.nw c c2 cap hok hw1) ?_
                  rintro _ _ ⟨rfl, c2b, capb, rfl⟩
                  refine OW.nil ⟨rfl, (by repeat' first | exact List.Sublist.refl _ | exact List.nil_sublist _ | apply List.Sublist.cons_cons | apply List.Sublist.cons), ?_⟩
                  refine HW.take 12 rfl (by kernel_rfl) (by kernel_rfl) (by kernel_rfl) rfl rfl (by repeat' first | exact List.Sublist.refl _ | exact List.nil_sublist _ | apply List.Sublist.cons_cons | apply List.Sublist.cons) (yv_of_yq rfl ((yq_eql rfl (by (conv => lhs; whnf) <;> rfl) (by (conv => lhs; whnf) <;> rfl)).to (v' := .bool true) (by simp))) ?_
                  refine HW.take 13 rfl (by kernel_rfl) (by kernel_rfl) (by kernel_rfl) rfl rfl (by repeat' first | exact List.Sublist.refl _ | exact List.nil_sublist _ | apply List.Sublist.cons_cons | apply List.Sublist.cons) (yv_of_yq rfl (yq_assign rfl (by (conv => lhs; whnf) <;> rfl))) ?_
                  refine HW.done (by kernel_rfl) ?_
                  exact ⟨actS (fun y => badP y x.nw) p x.ix, c2b, capb, Has.mk ⟨(by (conv => lhs; whnf) <;> rfl), (by (conv => lhs; whnf) <;> rfl), (by (conv => lhs; whnf) <;> rfl), (by (conv => lhs; whnf) <;> rfl), (by (conv => lhs; whnf) <;> rfl), (by (conv => lhs; whnf) <;> rfl), trivial⟩, actS_ok hok _ fun _ h => bad_ok h _, by rw [actS_len, actS_last]; exact permG⟩
                · refine CW.seq_k fun K25 hK25 => ?_
                  refine CW.region ?_
                  refine OW.q rfl rfl (yq_eql rfl (by (conv => lhs; whnf) <;> rfl) (by (conv => lhs; whnf) <;> rfl)) ?_
                  refine OW.q rfl rfl (yq_assign rfl (by (conv => lhs; whnf) <;> rfl)) ?_
                  refine OW.nil ?_
                  refine hK25 _ _ ?_
                  refine CW.cond_dec (by (conv => lhs; whnf) <;> rfl) (fun hc9 => ?_) (fun hc9 => ?_)
                  · refine CW.held ([.blk b10 (acC x) 35 (0, 0)]) mixed ?_
                    refine HW.take 0 rfl (by kernel_rfl) (by kernel_rfl) (by kernel_rfl) rfl rfl (by repeat' first | exact List.Sublist.refl _ | exact List.nil_sublist _ | apply List.Sublist.cons_cons | apply List.Sublist.cons) (yv_of_yq rfl (yq_move rfl (by (conv => lhs; whnf) <;> rfl))) ?_
                    refine HW.take 1 rfl (by kernel_rfl) (by kernel_rfl) (by kernel_rfl) rfl rfl (by repeat' first | exact List.Sublist.refl _ | exact List.nil_sublist _ | apply List.Sublist.cons_cons | apply List.Sublist.cons) (yv_of_yq rfl (yq_fieldAddr rfl (by (conv => lhs; whnf) <;> rfl) tf35_1 ti3)) ?_
                    refine HW.take 2 rfl (by kernel_rfl) (by kernel_rfl) (by kernel_rfl) rfl rfl (by repeat' first | exact List.Sublist.refl _ | exact List.nil_sublist _ | apply List.Sublist.cons_cons | apply List.Sublist.cons) (yv_of_yq rfl (yq_load1 (v := .int .i64 x.ix) rfl (by (conv => lhs; whnf) <;> rfl) ti3 (by repeat' first | exact List.mem_cons_self .. | apply List.mem_cons_of_mem) (by rfl))) ?_
                    refine HW.take 3 rfl (by kernel_rfl) (by kernel_rfl) (by kernel_rfl) rfl rfl (by repeat' first | exact List.Sublist.refl _ | exact List.nil_sublist _ | apply List.Sublist.cons_cons | apply List.Sublist.cons) (yv_of_yq rfl (yq_fieldAddr rfl (by (conv => lhs; whnf) <;> rfl) tf35_2 ti3)) ?_
                    refine HW.take 4 rfl (by kernel_rfl) (by kernel_rfl) (by kernel_rfl) rfl rfl (by repeat' first | exact List.Sublist.refl _ | exact List.nil_sublist _ | apply List.Sublist.cons_cons | apply List.Sublist.cons) (yv_of_yq rfl (yq_load1 (v := .int .i64 x.nw) rfl (by (conv => lhs; whnf) <;> rfl) ti3 (by repeat' first | exact List.mem_cons_self .. | apply List.mem_cons_of_mem) (by rfl))) ?_
                    refine HW.take 6 rfl (by kernel_rfl) (by kernel_rfl) (by kernel_rfl) rfl rfl (by repeat' first | exact List.Sublist.refl _ | exact List.nil_sublist _ | apply List.Sublist.cons_cons | apply List.Sublist.cons) (yv_of_yq rfl (yq_move rfl (by (conv => lhs; whnf) <;> rfl))) ?_
                    refine HW.take 7 rfl (by kernel_rfl) (by kernel_rfl) (by kernel_rfl) rfl rfl (by repeat' first | exact List.Sublist.refl _ | exact List.nil_sublist _ | apply List.Sublist.cons_cons | apply List.Sublist.cons) (yv_of_yq rfl (yq_fieldAddr rfl (by (conv => lhs; whnf) <;> rfl) tf35_1 ti3)) ?_
                    refine HW.take 8 rfl (by kernel_rfl) (by kernel_rfl) (by kernel_rfl) rfl rfl (by repeat' first | exact List.Sublist.refl _ | exact List.nil_sublist _ | apply List.Sublist.cons_cons | apply List.Sublist.cons) (yv_of_yq rfl (yq_load1 (v := .int .i64 x.ix) rfl (by (conv => lhs; whnf) <;> rfl) ti3 (by repeat' first | exact List.mem_cons_self .. | apply List.mem_cons_of_mem) (by rfl))) ?_
                    refine HW.take 9 rfl (by kernel_rfl) (by kernel_rfl) (by kernel_rfl) rfl rfl (by repeat' first | exact List.Sublist.refl _ | exact List.nil_sublist _ | apply List.Sublist.cons_cons | apply List.Sublist.cons) (yv_of_yq rfl (yq_fieldAddr rfl (by (conv => lhs; whnf) <;> rfl) tf35_2 ti3)) ?_
                    refine HW.take 10 rfl (by kernel_rfl) (by kernel_rfl) (by kernel_rfl) rfl rfl (by repeat' first | exact List.Sublist.refl _ | exact List.nil_sublist _ | apply List.Sublist.cons_cons | apply List.Sublist.cons) (yv_of_yq rfl (yq_load1 (v := .int .i64 x.nw) rfl (by (conv => lhs; whnf) <;> rfl) ti3 (by repeat' first | exact List.mem_cons_self .. | apply List.mem_cons_of_mem) (by rfl))) ?_
                    refine HW.one 5 (by kernel_rfl) rfl ?_
                    refine OW.perm perm12 ?_
                    refine OW.callB rfl rfl rfl (by (conv => lhs; whnf) <;> rfl) (.cons (by (conv => lhs; whnf) <;> rfl) (.cons (by (conv => lhs; whnf) <;> rfl) (.cons (by (conv => lhs; whnf) <;> rfl) .nil))) en18 (fun w1 hw1 => idle_calls p x.ix x.nw b b2 n hok hw1) ?_
                    rintro _ _ ⟨rfl, rfl⟩
                    refine OW.nil ⟨rfl, (by repeat' first | exact List.Sublist.refl _ | exact List.nil_sublist _ | apply List.Sublist.cons_cons | apply List.Sublist.cons), ?_⟩
                    refine HW.one 11 (by kernel_rfl) rfl ?_
                    refine OW.perm perm32 ?_
                    refine OW.callB rfl rfl rfl (by (conv => lhs; whnf) <;> rfl) (.cons (by (conv => lhs; whnf) <;> rfl) (.cons (by (conv => lhs; whnf) <;> rfl) (.cons (by (conv => lhs; whnf) <;> rfl) .nil))) en26 (fun w1 hw1 => ridle_calls p x.ix x.nw c c2 cap hok hw1) ?_
                    rintro _ _ ⟨rfl, c2b, capb, rfl⟩
                    refine OW.nil ⟨rfl, (by repeat' first | exact List.Sublist.refl _ | exact List.nil_sublist _ | apply List.Sublist.cons_cons | apply List.Sublist.cons), ?_⟩
                    refine HW.take 12 rfl (by kernel_rfl) (by kernel_rfl) (by kernel_rfl) rfl rfl (by repeat' first | exact List.Sublist.refl _ | exact List.nil_sublist _ | apply List.Sublist.cons_cons | apply List.Sublist.cons) (yv_of_yq rfl ((yq_eql rfl (by (conv => lhs; whnf) <;> rfl) (by (conv => lhs; whnf) <;> rfl)).to (v' := .bool true) (by simp))) ?_
                    refine HW.take 13 rfl (by kernel_rfl) (by kernel_rfl) (by kernel_rfl) rfl rfl (by repeat' first | exact List.Sublist.refl _ | exact List.nil_sublist _ | apply List.Sublist.cons_cons | apply List.Sublist.cons) (yv_of_yq rfl (yq_assign rfl (by (conv => lhs; whnf) <;> rfl))) ?_
                    refine HW.done (by kernel_rfl) ?_
                    exact ⟨actS (fun y => idleP y x.nw) p x.ix, c2b, capb, Has.mk ⟨(by (conv => lhs; whnf) <;> rfl), (by (conv => lhs; whnf) <;> rfl), (by (conv => lhs; whnf) <;> rfl), (by (conv => lhs; whnf) <;> rfl), (by (conv => lhs; whnf) <;> rfl), (by (conv => lhs; whnf) <;> rfl), trivial⟩, actS_ok hok _ fun _ h => idle_ok h _, by rw [actS_len, actS_last]; exact permG⟩
                  · refine CW.seq_k fun K26 hK26 => ?_
                    refine CW.region ?_
                    refine OW.q rfl rfl (yq_eql rfl (by (conv => lhs; whnf) <;> rfl) (by (conv => lhs; whnf) <;> rfl)) ?_
                    refine OW.q rfl rfl (yq_assign rfl (by (conv => lhs; whnf) <;> rfl)) ?_
                    refine OW.nil ?_
                    refine hK26 _ _ ?_
                    refine CW.cond_dec (by (conv => lhs; whnf) <;> rfl) (fun hc10 => ?_) (fun hc10 => ?_)
                    · refine CW.seq_k fun K27 hK27 => ?_
                      refine CW.region ?_
                      refine OW.q rfl rfl (yq_move rfl (by (conv => lhs; whnf) <;> rfl)) ?_
                      refine OW.calln rfl rfl rfl (by (conv => lhs; whnf) <;> rfl) (.cons (by (conv => lhs; whnf) <;> rfl) .nil) en27 (fun w hw => copy_ps p b b2 n w (psAt_row hw (by repeat' first | exact List.mem_cons_self .. | apply List.mem_cons_of_mem) (by repeat' first | exact List.mem_cons_self .. | apply List.mem_cons_of_mem)) hok) ?_
                      rintro _ _ ⟨d, d2, k, rfl, rfl⟩
                      refine OW.q rfl rfl (yq_assign rfl (by (conv => lhs; whnf) <;> rfl)) ?_
                      refine OW.nil ?_
                      refine hK27 _ _ ?_
                      refine CW.seq_k fun K28 hK28 => ?_
                      refine CW.region ?_
                      refine OW.q rfl rfl (yq_move rfl (by (conv => lhs; whnf) <;> rfl)) ?_
                      refine OW.q rfl rfl (yq_fieldAddr rfl (by (conv => lhs; whnf) <;> rfl) tf35_2 ti3) ?_
                      refine OW.q rfl rfl (yq_load1 (v := .int .i64 x.nw) rfl (by (conv => lhs; whnf) <;> rfl) ti3 (by repeat' first | exact List.mem_cons_self .. | apply List.mem_cons_of_mem) (by rfl)) ?_
                      refine OW.callB rfl rfl rfl (by (conv => lhs; whnf) <;> rfl) (.cons (by (conv => lhs; whnf) <;> rfl) (.cons (by (conv => lhs; whnf) <;> rfl) (.cons (by (conv => lhs; whnf) <;> rfl) .nil))) en17 (fun w1 hw1 => bad_calls p 0 x.nw d d2 k hok hw1) ?_
                      rintro _ _ ⟨rfl, rfl⟩
                      refine OW.nil ?_
                      refine hK28 _ _ ?_
                      refine CW.region ?_
                      refine OW.q rfl rfl (yq_move rfl (by (conv => lhs; whnf) <;> rfl)) ?_
                      refine OW.q rfl rfl (yq_fieldAddr rfl (by (conv => lhs; whnf) <;> rfl) tf35_2 ti3) ?_
                      refine OW.q rfl rfl (yq_load1 (v := .int .i64 x.nw) rfl (by (conv => lhs; whnf) <;> rfl) ti3 (by repeat' first | exact List.mem_cons_self .. | apply List.mem_cons_of_mem) (by rfl)) ?_
                      refine OW.callB rfl rfl rfl (by (conv => lhs; whnf) <;> rfl) (.cons (by (conv => lhs; whnf) <;> rfl) (.cons (by (conv => lhs; whnf) <;> rfl) .nil)) en19 (fun w1 hw1 => next_calls (actS (fun y => badP y x.nw) p 0) x.nw d d2 k (actS_ok hok _ fun _ h => bad_ok h _) (by rw [actS_len, actS_last]; exact hw1)) ?_
                      rintro _ _ ⟨rfl, rfl⟩
                      refine OW.drop (List.Sublist.cons _ (List.Sublist.cons _ (List.Sublist.refl _))) ?_
                      refine OW.nil ?_
                      exact ⟨p, c2, cap, Has.mk ⟨(by (conv => lhs; whnf) <;> rfl), (by (conv => lhs; whnf) <;> rfl), (by (conv => lhs; whnf) <;> rfl), (by (conv => lhs; whnf) <;> rfl), (by (conv => lhs; whnf) <;> rfl), (by (conv => lhs; whnf) <;> rfl), trivial⟩, hok, by exact (perm12 (R := [_, _])).trans (List.Perm.refl _) |>.trans (by exact List.Perm.cons _ (List.Perm.cons _ (perm12 (R := []))))⟩
                    · refine CW.seq_k fun K29 hK29 => ?_
                      refine CW.region ?_
                      refine OW.q rfl rfl (yq_move rfl (by (conv => lhs; whnf) <;> rfl)) ?_
                      refine OW.q rfl rfl (yq_fieldAddr rfl (by (conv => lhs; whnf) <;> rfl) tf35_2 ti3) ?_
                      refine OW.q rfl rfl (yq_load1 (v := .int .i64 x.nw) rfl (by (conv => lhs; whnf) <;> rfl) ti3 (by repeat' first | exact List.mem_cons_self .. | apply List.mem_cons_of_mem) (by rfl)) ?_
                      refine OW.perm perm12 ?_
                      refine OW.callB rfl rfl rfl (by (conv => lhs; whnf) <;> rfl) (.cons (by (conv => lhs; whnf) <;> rfl) (.cons (by (conv => lhs; whnf) <;> rfl) .nil)) en19 (fun w1 hw1 => next_calls p x.nw b b2 n hok hw1) ?_
                      rintro _ _ ⟨rfl, rfl⟩
                      rw [hnv]
                      refine OW.q rfl rfl (yq_move rfl (by (conv => lhs; whnf) <;> rfl)) ?_
                      refine OW.q rfl rfl (yq_extract rfl (by (conv => lhs; whnf) <;> rfl) rfl) ?_
                      refine OW.q rfl rfl (yq_extract rfl (by (conv => lhs; whnf) <;> rfl) rfl) ?_
                      refine OW.q rfl rfl (yq_assign rfl (by (conv => lhs; whnf) <;> rfl)) ?_
                      refine OW.q rfl rfl (yq_assign rfl (by (conv => lhs; whnf) <;> rfl)) ?_
                      refine OW.nil ?_
                      refine hK29 _ _ ?_
                      refine CW.seq_k fun K30 hK30 => ?_
                      refine CW.region ?_
                      refine OW.q rfl rfl (yq_move rfl (by (conv => lhs; whnf) <;> rfl)) ?_
                      refine OW.q rfl rfl (yq_fieldAddr rfl (by (conv => lhs; whnf) <;> rfl) tf35_2 ti3) ?_
                      refine OW.q rfl rfl (yq_load1 (v := .int .i64 x.nw) rfl (by (conv => lhs; whnf) <;> rfl) ti3 (by repeat' first | exact List.mem_cons_self .. | apply List.mem_cons_of_mem) (by rfl)) ?_
                      refine OW.perm perm32 ?_
                      refine OW.callB rfl rfl rfl (by (conv => lhs; whnf) <;> rfl) (.cons (by (conv => lhs; whnf) <;> rfl) (.cons (by (conv => lhs; whnf) <;> rfl) .nil)) en28 (fun w1 hw1 => rnext_calls p x.nw c c2 cap hok hw1) ?_
                      rintro _ _ ⟨rfl, rfl⟩
                      rw [hnv]
                      refine OW.q rfl rfl (yq_move rfl (by (conv => lhs; whnf) <;> rfl)) ?_
                      refine OW.q rfl rfl (yq_extract rfl (by (conv => lhs; whnf) <;> rfl) rfl) ?_
                      refine OW.q rfl rfl (yq_extract rfl (by (conv => lhs; whnf) <;> rfl) rfl) ?_
                      refine OW.q rfl rfl (yq_assign rfl (by (conv => lhs; whnf) <;> rfl)) ?_
                      refine OW.q rfl rfl (yq_assign rfl (by (conv => lhs; whnf) <;> rfl)) ?_
                      refine OW.nil ?_
                      refine hK30 _ _ ?_
                      refine CW.region ?_
                      refine OW.q rfl rfl (yq_move rfl (by (conv => lhs; whnf) <;> rfl)) ?_
                      refine OW.q rfl rfl (yq_move rfl (by (conv => lhs; whnf) <;> rfl)) ?_
                      refine OW.q rfl rfl ((yq_eql rfl (by (conv => lhs; whnf) <;> rfl) (by (conv => lhs; whnf) <;> rfl)).to (v' := .bool true) (by simp)) ?_
                      refine OW.q rfl rfl (yq_move rfl (by (conv => lhs; whnf) <;> rfl)) ?_
                      refine OW.q rfl rfl (yq_move rfl (by (conv => lhs; whnf) <;> rfl)) ?_
                      refine OW.q rfl rfl (yq_move rfl (by (conv => lhs; whnf) <;> rfl)) ?_
                      refine OW.q rfl rfl ((yq_eql_bool rfl (by (conv => lhs; whnf) <;> rfl) (by (conv => lhs; whnf) <;> rfl) Try.underlying4).to (v' := .bool true) (by simp)) ?_
                      refine OW.q rfl rfl (yq_pick rfl (by (conv => lhs; whnf) <;> rfl) (by (conv => lhs; whnf) <;> rfl)) ?_
                      refine OW.q rfl rfl (yq_assign rfl (by (conv => lhs; whnf) <;> rfl)) ?_
                      refine OW.nil ?_
                      exact ⟨nextS p x.nw, c2, cap, Has.mk ⟨(by (conv => lhs; whnf) <;> rfl), (by (conv => lhs; whnf) <;> rfl), (by (conv => lhs; whnf) <;> rfl), (by (conv => lhs; whnf) <;> rfl), (by (conv => lhs; whnf) <;> rfl), (by (conv => lhs; whnf) <;> rfl), trivial⟩, nextS_ok hok _, by rw [nextS_l]; exact permG⟩
          · rintro _ L' ⟨p2, c2, cap, ⟨ρ', rfl⟩, hok2, hperm⟩
            refine hK20 _ _ ?_
            refine CW.perm hperm ?_
            refine CW.seq_k fun K31 hK31 => ?_
            refine CW.draw mixed (by kernel_rfl) ?_
            refine QW.q rfl rfl (yq_move rfl (by (conv => lhs; whnf) <;> rfl)) ?_
            refine QW.q rfl rfl ((yq_not rfl (by (conv => lhs; whnf) <;> rfl)).to (v' := .bool false) (by simp)) ?_
            refine QW.q rfl rfl (yq_move rfl (by (conv => lhs; whnf) <;> rfl)) ?_
            refine QW.q rfl rfl (yq_move rfl (by (conv => lhs; whnf) <;> rfl)) ?_
            refine QW.q rfl rfl (yq_move rfl (by (conv => lhs; whnf) <;> rfl)) ?_
            refine QW.q rfl rfl ((yq_call rfl rfl (.cons (by (conv => lhs; whnf) <;> rfl) (.cons (by (conv => lhs; whnf) <;> rfl) .nil)) en29 (fun w hw => alike_calls p2 b b2 n c c2 cap w (psAt_row (p := p2) (b := b) (b2 := b2) (cap := n) hw (by repeat' first | exact List.mem_cons_self .. | apply List.mem_cons_of_mem) (by repeat' first | exact List.mem_cons_self .. | apply List.mem_cons_of_mem)) (psAt_row (p := p2) (b := c) (b2 := c2) (cap := cap) hw (by repeat' first | exact List.mem_cons_self .. | apply List.mem_cons_of_mem) (by repeat' first | exact List.mem_cons_self .. | apply List.mem_cons_of_mem)) hok2))) ?_
            refine QW.q rfl rfl ((yq_not rfl (by (conv => lhs; whnf) <;> rfl)).to (v' := .bool false) (by simp)) ?_
            refine QW.q rfl rfl (yq_pick rfl (by (conv => lhs; whnf) <;> rfl) (by (conv => lhs; whnf) <;> rfl)) ?_
            refine QW.q rfl rfl (yq_move rfl (by (conv => lhs; whnf) <;> rfl)) ?_
            refine QW.q rfl rfl (yq_move rfl (by (conv => lhs; whnf) <;> rfl)) ?_
            refine QW.q rfl rfl (yq_fieldAddr rfl (by (conv => lhs; whnf) <;> rfl) tf35_1 ti3) ?_
            refine QW.q rfl rfl (yq_load1 (v := .int .i64 x.ix) rfl (by (conv => lhs; whnf) <;> rfl) ti3 (by repeat' first | exact List.mem_cons_self .. | apply List.mem_cons_of_mem) (by rfl)) ?_
            refine QW.q rfl rfl (yq_fieldAddr rfl (by (conv => lhs; whnf) <;> rfl) tf35_2 ti3) ?_
            refine QW.q rfl rfl (yq_load1 (v := .int .i64 x.nw) rfl (by (conv => lhs; whnf) <;> rfl) ti3 (by repeat' first | exact List.mem_cons_self .. | apply List.mem_cons_of_mem) (by rfl)) ?_
            refine QW.q rfl rfl (yq_call rfl rfl (.cons (by (conv => lhs; whnf) <;> rfl) (.cons (by (conv => lhs; whnf) <;> rfl) (.cons (by (conv => lhs; whnf) <;> rfl) .nil))) en21 (fun w hw => barred_ps p2 x.ix x.nw b b2 n w (psAt_row (p := p2) (b := b) (b2 := b2) (cap := n) hw (by repeat' first | exact List.mem_cons_self .. | apply List.mem_cons_of_mem) (by repeat' first | exact List.mem_cons_self .. | apply List.mem_cons_of_mem)) hok2)) ?_
            refine QW.q rfl rfl (yq_move rfl (by (conv => lhs; whnf) <;> rfl)) ?_
            refine QW.q rfl rfl (yq_fieldAddr rfl (by (conv => lhs; whnf) <;> rfl) tf35_1 ti3) ?_
            refine QW.q rfl rfl (yq_load1 (v := .int .i64 x.ix) rfl (by (conv => lhs; whnf) <;> rfl) ti3 (by repeat' first | exact List.mem_cons_self .. | apply List.mem_cons_of_mem) (by rfl)) ?_
            refine QW.q rfl rfl (yq_fieldAddr rfl (by (conv => lhs; whnf) <;> rfl) tf35_2 ti3) ?_
            refine QW.q rfl rfl (yq_load1 (v := .int .i64 x.nw) rfl (by (conv => lhs; whnf) <;> rfl) ti3 (by repeat' first | exact List.mem_cons_self .. | apply List.mem_cons_of_mem) (by rfl)) ?_
            refine QW.q rfl rfl (yq_call rfl rfl (.cons (by (conv => lhs; whnf) <;> rfl) (.cons (by (conv => lhs; whnf) <;> rfl) (.cons (by (conv => lhs; whnf) <;> rfl) .nil))) en30 (fun w hw => rbarred_ps p2 x.ix x.nw c c2 cap w (psAt_row (p := p2) (b := c) (b2 := c2) (cap := cap) hw (by repeat' first | exact List.mem_cons_self .. | apply List.mem_cons_of_mem) (by repeat' first | exact List.mem_cons_self .. | apply List.mem_cons_of_mem)) hok2)) ?_
            refine QW.q rfl rfl ((yq_neq_bool rfl (by (conv => lhs; whnf) <;> rfl) (by (conv => lhs; whnf) <;> rfl) Try.underlying4).to (v' := .bool false) (by simp)) ?_
            refine QW.q rfl rfl (yq_pick rfl (by (conv => lhs; whnf) <;> rfl) (by (conv => lhs; whnf) <;> rfl)) ?_
            refine QW.nil ?_
            refine hK31 _ _ ?_
            refine CW.cond_f (by (conv => lhs; whnf) <;> rfl) ?_
            refine CW.skip ?_
            refine hK17 _ _ ?_
            refine CW.drop (L' := [.blk b [.slice (some ⟨b2, 0, none⟩) (p2).l.length n, .int .i64 ((p2).last : Int)] 55 (0, 0), .row (some b2) n (p2).l.length 42 4 ((p2).l.flatMap prC), .blk c [.slice (some ⟨c2, 0, none⟩) (p2).l.length cap, .int .i64 ((p2).last : Int)] 60 (0, 0), .row (some c2) cap (p2).l.length 61 4 ((p2).l.flatMap prC)]) (by repeat' first | exact List.Sublist.refl _ | exact List.nil_sublist _ | apply List.Sublist.cons_cons | apply List.Sublist.cons) ?_
            refine CW.region ?_
            refine OW.q rfl rfl (yq_move rfl (by (conv => lhs; whnf) <;> rfl)) ?_
            refine OW.q rfl rfl (yq_add rfl (by (conv => lhs; whnf) <;> rfl) (by (conv => lhs; whnf) <;> rfl) (by omega)) ?_
            refine OW.q rfl rfl (yq_assign rfl (by (conv => lhs; whnf) <;> rfl)) ?_
            refine OW.nil ?_
            exact ⟨(i + 1, p2, c2, cap), ⟨Has.mk ⟨(by (conv => lhs; whnf) <;> rfl), (by (conv => lhs; whnf) <;> rfl), (by (conv => lhs; whnf) <;> rfl), (by (conv => lhs; whnf) <;> rfl), trivial⟩, by omega, hok2, rfl⟩, by show l.length - (i + 1) < l.length - i; omega⟩
        · refine CW.exit ?_
          refine then_exit ?_
          refine then_exit ?_
          refine blockQ_hit ?_
          refine hK13 _ _ ?_
          refine CW.seq_k fun K32 hK32 => ?_
          refine CW.region ?_
          refine OW.q rfl rfl (yq_call rfl rfl .nil en13 (fun w hw => asks_calls w)) ?_
          refine OW.q rfl rfl (yq_assign rfl (by (conv => lhs; whnf) <;> rfl)) ?_
          refine OW.nil ?_
          refine hK32 _ _ ?_
          refine CW.ret ?_
          -- ret (ret)
          exact fin1 (Or.inr rfl) rfl ⟨by decide, (by (conv => lhs; whnf) <;> rfl)⟩ (fun w hw => ⟨rfl, hw.sub (List.nil_sublist _)⟩)

end Go.Proofs.Ytahdekllphehkaa
