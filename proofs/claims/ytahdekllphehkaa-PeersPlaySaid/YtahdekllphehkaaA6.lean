/- PeersAgain; no statement of the seat is proved here. -/
import Derived.Test.YtahdekllphehkaaA5
import Derived.Test.YtahdekllphehkaaS3
set_option linter.unusedVariables false
set_option linter.unusedSimpArgs false
namespace Go.Proofs.Ytahdekllphehkaa
open Go.WL Go.Spec

set_option maxRecDepth 100000 in
set_option maxHeartbeats 1000000 in
theorem peersAgain_calls (l : List Ac) (v : Value) (w : World) (hs : AsAt w v l) : Calls Try.prog 5 #[v] w fun e w' => e = .returned (.bool true) ∧ Cl w [] [] w' := by
  obtain ⟨a0, cap0, hv0⟩ := hs.len
  refine calls_of_CW (L := []) Try.func5 rfl (Nat.le_of_ble_eq_true rfl) (Cl.refl _) ?_
  refine CW.seq_k fun K1 hK1 => ?_
  refine CW.region ?_
  refine OW.q rfl rfl (yq_assign rfl (by (conv => lhs; whnf) <;> rfl)) ?_
  refine OW.nil ?_
  refine hK1 _ _ ?_
  refine CW.seq_k fun K2 hK2 => ?_
  refine CW.seq_k fun K3 hK3 => ?_
  refine CW.region ?_
  refine OW.q rfl rfl (yq_move rfl (by (conv => lhs; whnf) <;> rfl)) ?_
  refine OW.q rfl rfl ((yq_len_slice rfl ts28 (by (conv => lhs; whnf); exact hv0))) ?_
  refine OW.q rfl rfl (yq_gtr rfl (by (conv => lhs; whnf) <;> rfl) (by (conv => lhs; whnf) <;> rfl)) ?_
  refine OW.nil ?_
  refine hK3 _ _ ?_
  refine CW.cond_dec (by (conv => lhs; whnf) <;> rfl) (fun hc0 => ?_) (fun hc0 => ?_)
  · refine CW.seq_k fun K4 hK4 => ?_
    refine CW.region ?_
    refine OW.q rfl rfl (yq_call rfl rfl .nil en13 (fun w hw => asks_calls w)) ?_
    refine OW.q rfl rfl (yq_assign rfl (by (conv => lhs; whnf) <;> rfl)) ?_
    refine OW.nil ?_
    refine hK4 _ _ ?_
    refine CW.ret ?_
    refine then_ret ?_
    -- ret (ret)
    exact fin1 (Or.inr rfl) rfl ⟨by decide, (by (conv => lhs; whnf) <;> rfl)⟩ (fun w hw => ⟨rfl, hw.sub (List.nil_sublist _)⟩)
  · refine CW.skip ?_
    refine hK2 _ _ ?_
    refine CW.seq_k fun K5 hK5 => ?_
    refine CW.region ?_
    refine OW.calln rfl rfl rfl (by (conv => lhs; whnf) <;> rfl) (.cons (by (conv => lhs; whnf) <;> rfl) .nil) en14 (fun w hw => new_ok 4 w (by decide) (by decide)) ?_
    rintro _ _ ⟨b, b2, rfl, rfl⟩
    refine OW.q rfl rfl (yq_move rfl (by (conv => lhs; whnf) <;> rfl)) ?_
    refine OW.q rfl rfl (yq_extract rfl (by (conv => lhs; whnf) <;> rfl) rfl) ?_
    refine OW.q rfl rfl (yq_extract rfl (by (conv => lhs; whnf) <;> rfl) rfl) ?_
    refine OW.q rfl rfl (yq_assign rfl (by (conv => lhs; whnf) <;> rfl)) ?_
    refine OW.q rfl rfl (yq_assign rfl (by (conv => lhs; whnf) <;> rfl)) ?_
    refine OW.nil ?_
    refine hK5 _ _ ?_
    refine CW.seq_k fun K6 hK6 => ?_
    refine CW.seq_k fun K7 hK7 => ?_
    refine CW.region ?_
    refine OW.q rfl rfl (yq_move rfl (by (conv => lhs; whnf) <;> rfl)) ?_
    refine OW.q rfl rfl ((yq_neq rfl (by (conv => lhs; whnf) <;> rfl) (by (conv => lhs; whnf) <;> rfl)).to (v' := .bool false) (by simp)) ?_
    refine OW.nil ?_
    refine hK7 _ _ ?_
    refine CW.cond_f (by (conv => lhs; whnf) <;> rfl) ?_
    refine CW.skip ?_
    refine hK6 _ _ ?_
    refine CW.seq_k fun K8 hK8 => ?_
    refine CW.region ?_
    refine OW.q rfl rfl (yq_assign rfl (by (conv => lhs; whnf) <;> rfl)) ?_
    refine OW.nil ?_
    refine hK8 _ _ ?_
    refine CW.seq_k fun K9 hK9 => ?_
    refine CW.region ?_
    refine OW.alloc rfl rfl rfl tz33 (fun b6 => ?_)
    refine OW.nil ?_
    refine hK9 _ _ ?_
    refine CW.seq_k fun K10 hK10 => ?_
    refine CW.seq_k fun K11 hK11 => ?_
    refine CW.perm permF ?_
    refine CW.region ?_
    refine OW.q rfl rfl (yq_assign rfl (by (conv => lhs; whnf) <;> rfl)) ?_
    refine OW.nil ?_
    refine hK11 _ _ ?_
    refine CW.block ?_
    refine CW.loop (σ := Nat × PS × Int × List Bool) (fun z ρ L => match z with | (i, p, now, bd) => Has ρ [(0, v), (3, .pointer (some ⟨b, 0, none⟩)), (4, .int .i64 0), (5, .int .i64 now), (6, .pointer (some ⟨b6, 0, none⟩)), (7, .int .i64 (i : Int))] ∧ i ≤ l.length ∧ p.ok ∧ p.l.length = 4 ∧ 0 ≤ now ∧ now ≤ 15 * (i : Int) ∧ bd.length = 4 ∧ FairAll p bd now ∧ L = [.blk b [.slice (some ⟨b2, 0, none⟩) (p).l.length 4, .int .i64 ((p).last : Int)] 55 (0, 0), .row (some b2) 4 (p).l.length 42 4 ((p).l.flatMap prC), .blk b6 (bdC bd) 33 (0, 0)]) (fun z => l.length - z.1) ((0, PS.new 4, 0, [false, false, false, false])) ?_ ?_
    · exact ⟨Has.mk ⟨(by (conv => lhs; whnf) <;> rfl), (by (conv => lhs; whnf) <;> rfl), (by (conv => lhs; whnf) <;> rfl), (by (conv => lhs; whnf) <;> rfl), (by (conv => lhs; whnf) <;> rfl), (by (conv => lhs; whnf) <;> rfl), trivial⟩, by omega, PS.new_ok (by decide) (by decide), rfl, by omega, by omega, rfl, FairAll.new, rfl⟩
    · rintro ⟨i, p, now, bd⟩ _ _ ⟨⟨ρ', rfl⟩, hi, hpok, hp4, hn0, hn1, hbd, hfa, rfl⟩
      refine CW.seq_k fun K12 hK12 => ?_
      refine CW.seq_k fun K13 hK13 => ?_
      refine CW.region ?_
      refine OW.q rfl rfl (yq_move rfl (by (conv => lhs; whnf) <;> rfl)) ?_
      refine OW.q rfl rfl (yq_move rfl (by (conv => lhs; whnf) <;> rfl)) ?_
      refine OW.q rfl rfl ((yq_len_slice rfl ts28 (by (conv => lhs; whnf); exact hv0))) ?_
      refine OW.q rfl rfl (yq_lss rfl (by (conv => lhs; whnf) <;> rfl) (by (conv => lhs; whnf) <;> rfl)) ?_
      refine OW.nil ?_
      refine hK13 _ _ ?_
      refine CW.cond_dec (by (conv => lhs; whnf) <;> rfl) (fun hc3 => ?_) (fun hc3 => ?_)
      · have hil : i < l.length := by omega
        have hl0 : l ≠ [] := fun e => by rw [e] at hil; simp at hil
        obtain ⟨bA, oA, cA, hvA, hoks, hcell⟩ := hs.place hl0
        obtain ⟨x, hx⟩ : ∃ x, l[i]? = some x := ⟨_, List.getElem?_eq_getElem hil⟩
        have hxok := hoks x (List.mem_of_getElem? hx)
        have hd16 : (x.dr % 16).toNat = x.dr.toNat % 16 := by rw [UInt8.toNat_mod]; rfl
        obtain ⟨now2, hnow2⟩ : ∃ now2 : Int, now2 = now + ((x.dr % 16).toNat : Int) := ⟨_, rfl⟩
        have hfa1 := hfa.later (show now ≤ now2 by omega)
        clear hfa
        have hfa := hfa1
        obtain ⟨k, hk4, hkx⟩ := @and3 x.ix
        have hkin : inP p (k : Int) := by unfold inP; omega
        refine CW.skip ?_
        refine hK12 _ _ ?_
        refine CW.seq_k fun K14 hK14 => ?_
        refine CW.block ?_
        refine CW.seq_k fun K15 hK15 => ?_
        refine CW.region ?_
        refine OW.q rfl rfl (yq_move rfl (by (conv => lhs; whnf) <;> rfl)) ?_
        refine OW.q rfl rfl (yq_move rfl (by (conv => lhs; whnf) <;> rfl)) ?_
        refine OW.q rfl rfl (yq_move rfl (by (conv => lhs; whnf) <;> rfl)) ?_
        refine OW.q rfl rfl ((yq_index_slice rfl (by (conv => lhs; whnf); exact hvA) (by (conv => lhs; whnf) <;> rfl) ts28 ti35 (by omega) (by omega))) ?_
        refine OW.q rfl rfl (yq_fieldAddr rfl (by (conv => lhs; whnf) <;> rfl) tf35_3 ti5) ?_
        refine OW.q rfl rfl (yq_load_c (v := U8 x.dr) rfl (by (conv => lhs; whnf) <;> rfl) (fun w hw => run_load_one ti5 (cell_keep hw (hcell i x _ _ hx rfl) (by simp)))) ?_
        refine OW.q rfl rfl (yq_rem_u8 (b := 16) rfl (by (conv => lhs; whnf) <;> rfl) (by (conv => lhs; whnf) <;> rfl) (by decide)) ?_
        refine OW.q rfl rfl (yq_conv_u8_i64 rfl Try.underlying5 Try.underlying3 (by (conv => lhs; whnf) <;> rfl)) ?_
        refine OW.q rfl rfl (yq_add_e (r := now2) rfl (by (conv => lhs; whnf) <;> rfl) (by (conv => lhs; whnf) <;> rfl) (by rw [wrap64_in (by omega), hnow2])) ?_
        refine OW.q rfl rfl (yq_assign rfl (by (conv => lhs; whnf) <;> rfl)) ?_
        refine OW.nil ?_
        refine hK15 _ _ ?_
        refine CW.seq_k fun K16 hK16 => ?_
        refine CW.region ?_
        refine OW.q rfl rfl (yq_move rfl (by (conv => lhs; whnf) <;> rfl)) ?_
        refine OW.q rfl rfl (yq_move rfl (by (conv => lhs; whnf) <;> rfl)) ?_
        refine OW.q rfl rfl ((yq_index_slice rfl (by (conv => lhs; whnf); exact hvA) (by (conv => lhs; whnf) <;> rfl) ts28 ti35 (by omega) (by omega))) ?_
        refine OW.q rfl rfl (yq_fieldAddr rfl (by (conv => lhs; whnf) <;> rfl) tf35_1 ti3) ?_
        refine OW.q rfl rfl (yq_load_c (v := .int .i64 x.ix) rfl (by (conv => lhs; whnf) <;> rfl) (fun w hw => run_load_one ti3 (cell_keep hw (hcell i x _ _ hx rfl) (by simp)))) ?_
        refine OW.q rfl rfl (yq_and_e (r := (k : Int)) rfl (by (conv => lhs; whnf) <;> rfl) (by (conv => lhs; whnf) <;> rfl) (by rw [and_3]; exact hkx)) ?_
        refine OW.q rfl rfl (yq_assign rfl (by (conv => lhs; whnf) <;> rfl)) ?_
        refine OW.nil ?_
        refine hK16 _ _ ?_
        refine CW.seq_k fun K17 hK17 => ?_
        refine CW.seq_k fun K18 hK18 => ?_
        refine CW.region ?_
        refine OW.q rfl rfl (yq_move rfl (by (conv => lhs; whnf) <;> rfl)) ?_
        refine OW.q rfl rfl (yq_move rfl (by (conv => lhs; whnf) <;> rfl)) ?_
        refine OW.q rfl rfl ((yq_index_slice rfl (by (conv => lhs; whnf); exact hvA) (by (conv => lhs; whnf) <;> rfl) ts28 ti35 (by omega) (by omega))) ?_
        refine OW.q rfl rfl (yq_fieldAddr rfl (by (conv => lhs; whnf) <;> rfl) tf35_0 ti5) ?_
        refine OW.q rfl rfl (yq_load_c (v := U8 x.kd) rfl (by (conv => lhs; whnf) <;> rfl) (fun w hw => run_load_one ti5 (cell_keep hw (hcell i x _ _ hx rfl) (by simp)))) ?_
        refine OW.q rfl rfl (yq_rem_u8 (b := 5) rfl (by (conv => lhs; whnf) <;> rfl) (by (conv => lhs; whnf) <;> rfl) (by decide)) ?_
        refine OW.nil ?_
        refine hK18 _ _ ?_
        refine CW.cutK (fun ρ L => ∃ (p2 : PS) (bd2 : List Bool), Has ρ [(0, v), (3, .pointer (some ⟨b, 0, none⟩)), (4, .int .i64 0), (5, .int .i64 now2), (6, .pointer (some ⟨b6, 0, none⟩)), (7, .int .i64 (i : Int))] ∧ p2.ok ∧ p2.l.length = 4 ∧ bd2.length = 4 ∧ FairAll p2 bd2 now2 ∧ L = [.blk b [.slice (some ⟨b2, 0, none⟩) (p2).l.length 4, .int .i64 ((p2).last : Int)] 55 (0, 0), .row (some b2) 4 (p2).l.length 42 4 ((p2).l.flatMap prC), .blk b6 (bdC bd2) 33 (0, 0)]) ?_ ?_
        · refine CW.block ?_
          refine CW.seq_k fun K19 hK19 => ?_
          refine CW.region ?_
          refine OW.q rfl rfl (yq_eql rfl (by (conv => lhs; whnf) <;> rfl) (by (conv => lhs; whnf) <;> rfl)) ?_
          refine OW.q rfl rfl (yq_assign rfl (by (conv => lhs; whnf) <;> rfl)) ?_
          refine OW.nil ?_
          refine hK19 _ _ ?_
          refine CW.cond_dec (by (conv => lhs; whnf) <;> rfl) (fun hc6 => ?_) (fun hc6 => ?_)
          · refine CW.region ?_
            refine OW.q rfl rfl (yq_move rfl (by (conv => lhs; whnf) <;> rfl)) ?_
            refine OW.q rfl rfl (yq_move rfl (by (conv => lhs; whnf) <;> rfl)) ?_
            refine OW.callB rfl rfl rfl (by (conv => lhs; whnf) <;> rfl) (.cons (by (conv => lhs; whnf) <;> rfl) (.cons (by (conv => lhs; whnf) <;> rfl) .nil)) en15 (fun w1 hw1 => good_calls p (k : Int) b b2 4 hpok hw1) ?_
            rintro _ _ ⟨rfl, rfl⟩
            rw [actE_in hkin]
            refine OW.q rfl rfl (yq_assign rfl (by (conv => lhs; whnf) <;> rfl)) ?_
            refine OW.nil ?_
            exact ⟨actS goodP p k, bd, Has.mk ⟨(by (conv => lhs; whnf) <;> rfl), (by (conv => lhs; whnf) <;> rfl), (by (conv => lhs; whnf) <;> rfl), (by (conv => lhs; whnf) <;> rfl), (by (conv => lhs; whnf) <;> rfl), (by (conv => lhs; whnf) <;> rfl), trivial⟩, actS_ok hpok _ fun _ h => good_ok h, by rw [actS_len]; exact hp4, hbd, @FairAll.act goodP p bd bd now2 k hfa hp4 hk4 (fun j _ _ => rfl) ((hfa k hk4).good), by rw [actS_len, actS_last]; try rfl⟩
          · refine CW.seq_k fun K20 hK20 => ?_
            refine CW.region ?_
            refine OW.q rfl rfl (yq_eql rfl (by (conv => lhs; whnf) <;> rfl) (by (conv => lhs; whnf) <;> rfl)) ?_
            refine OW.q rfl rfl (yq_assign rfl (by (conv => lhs; whnf) <;> rfl)) ?_
            refine OW.nil ?_
            refine hK20 _ _ ?_
            refine CW.cond_dec (by (conv => lhs; whnf) <;> rfl) (fun hc7 => ?_) (fun hc7 => ?_)
            · refine CW.region ?_
              refine OW.q rfl rfl (yq_move rfl (by (conv => lhs; whnf) <;> rfl)) ?_
              refine OW.q rfl rfl (yq_move rfl (by (conv => lhs; whnf) <;> rfl)) ?_
              refine OW.q rfl rfl (yq_move rfl (by (conv => lhs; whnf) <;> rfl)) ?_
              refine OW.q rfl rfl (yq_move rfl (by (conv => lhs; whnf) <;> rfl)) ?_
              refine OW.q rfl rfl (yq_move rfl (by (conv => lhs; whnf) <;> rfl)) ?_
              refine OW.q rfl rfl ((yq_index_slice rfl (by (conv => lhs; whnf); exact hvA) (by (conv => lhs; whnf) <;> rfl) ts28 ti35 (by omega) (by omega))) ?_
              refine OW.q rfl rfl (yq_fieldAddr rfl (by (conv => lhs; whnf) <;> rfl) tf35_3 ti5) ?_
              refine OW.q rfl rfl (yq_load_c (v := U8 x.dr) rfl (by (conv => lhs; whnf) <;> rfl) (fun w hw => run_load_one ti5 (cell_keep hw (hcell i x _ _ hx rfl) (by simp)))) ?_
              refine OW.callB rfl rfl rfl (by (conv => lhs; whnf) <;> rfl) (.cons (by (conv => lhs; whnf) <;> rfl) (.cons (by (conv => lhs; whnf) <;> rfl) (.cons (by (conv => lhs; whnf) <;> rfl) (.cons (by (conv => lhs; whnf) <;> rfl) .nil)))) en16 (fun w1 hw1 => late_calls p (k : Int) now2 x.dr b b2 4 hpok hw1) ?_
              rintro _ _ ⟨rfl, rfl⟩
              rw [actE_in hkin]
              refine OW.q rfl rfl (yq_assign rfl (by (conv => lhs; whnf) <;> rfl)) ?_
              refine OW.nil ?_
              exact ⟨actS (fun y => lateP y now2 x.dr.toNat) p k, bd, Has.mk ⟨(by (conv => lhs; whnf) <;> rfl), (by (conv => lhs; whnf) <;> rfl), (by (conv => lhs; whnf) <;> rfl), (by (conv => lhs; whnf) <;> rfl), (by (conv => lhs; whnf) <;> rfl), (by (conv => lhs; whnf) <;> rfl), trivial⟩, actS_ok hpok _ fun _ h => late_ok h _ _, by rw [actS_len]; exact hp4, hbd, @FairAll.act (fun y => lateP y now2 x.dr.toNat) p bd bd now2 k hfa hp4 hk4 (fun j _ _ => rfl) ((hfa k hk4).late (by omega) (by omega)), by rw [actS_len, actS_last]; try rfl⟩
            · refine CW.seq_k fun K21 hK21 => ?_
              refine CW.region ?_
              refine OW.q rfl rfl (yq_eql rfl (by (conv => lhs; whnf) <;> rfl) (by (conv => lhs; whnf) <;> rfl)) ?_
              refine OW.q rfl rfl (yq_assign rfl (by (conv => lhs; whnf) <;> rfl)) ?_
              refine OW.nil ?_
              refine hK21 _ _ ?_
              refine CW.cond_dec (by (conv => lhs; whnf) <;> rfl) (fun hc8 => ?_) (fun hc8 => ?_)
              · refine CW.seq_k fun K22 hK22 => ?_
                refine CW.region ?_
                refine OW.q rfl rfl (yq_move rfl (by (conv => lhs; whnf) <;> rfl)) ?_
                refine OW.q rfl rfl (yq_move rfl (by (conv => lhs; whnf) <;> rfl)) ?_
                refine OW.q rfl rfl (yq_move rfl (by (conv => lhs; whnf) <;> rfl)) ?_
                refine OW.callB rfl rfl rfl (by (conv => lhs; whnf) <;> rfl) (.cons (by (conv => lhs; whnf) <;> rfl) (.cons (by (conv => lhs; whnf) <;> rfl) (.cons (by (conv => lhs; whnf) <;> rfl) .nil))) en17 (fun w1 hw1 => bad_calls p (k : Int) now2 b b2 4 hpok hw1) ?_
                rintro _ _ ⟨rfl, rfl⟩
                rw [actE_in hkin]
                refine OW.q rfl rfl (yq_assign rfl (by (conv => lhs; whnf) <;> rfl)) ?_
                refine OW.nil ?_
                refine hK22 _ _ ?_
                refine CW.region ?_
                refine OW.q rfl rfl (yq_move rfl (by (conv => lhs; whnf) <;> rfl)) ?_
                refine OW.q rfl rfl (yq_index_arr rfl (by (conv => lhs; whnf) <;> rfl) (by (conv => lhs; whnf) <;> rfl) ta33 ti4 (by omega) (by omega)) ?_
                refine OW.store' rfl rfl rfl (by (conv => lhs; whnf) <;> rfl) (by (conv => lhs; whnf) <;> rfl) (vs := [.bool true]) ti4 rfl (by intro u hu; rw [List.mem_singleton.1 hu]; rfl) (by repeat' first | exact Put.head | apply Put.tail) (cs' := bdC (bd.set k true)) (by exact bd_set (by omega)) (by rw [bdC_length]; simp; omega) ?_
                refine OW.nil ?_
                exact ⟨actS (fun y => badP y now2) p k, (bd.set k true), Has.mk ⟨(by (conv => lhs; whnf) <;> rfl), (by (conv => lhs; whnf) <;> rfl), (by (conv => lhs; whnf) <;> rfl), (by (conv => lhs; whnf) <;> rfl), (by (conv => lhs; whnf) <;> rfl), (by (conv => lhs; whnf) <;> rfl), trivial⟩, actS_ok hpok _ fun _ h => bad_ok h _, by rw [actS_len]; exact hp4, by simp; exact hbd, @FairAll.act (fun y => badP y now2) p bd (bd.set k true) now2 k hfa hp4 hk4 (fun j _ hj => bd_ne hj) (by rw [bd_get (by omega)]; exact Fair.bad (x := p.get k) (b := bd.getD k false) (by omega) (by omega)), by rw [actS_len, actS_last]; try rfl⟩
              · refine CW.seq_k fun K23 hK23 => ?_
                refine CW.region ?_
                refine OW.q rfl rfl (yq_eql rfl (by (conv => lhs; whnf) <;> rfl) (by (conv => lhs; whnf) <;> rfl)) ?_
                refine OW.q rfl rfl (yq_assign rfl (by (conv => lhs; whnf) <;> rfl)) ?_
                refine OW.nil ?_
                refine hK23 _ _ ?_
                refine CW.cond_dec (by (conv => lhs; whnf) <;> rfl) (fun hc9 => ?_) (fun hc9 => ?_)
                · refine CW.region ?_
                  refine OW.q rfl rfl (yq_move rfl (by (conv => lhs; whnf) <;> rfl)) ?_
                  refine OW.q rfl rfl (yq_move rfl (by (conv => lhs; whnf) <;> rfl)) ?_
                  refine OW.q rfl rfl (yq_move rfl (by (conv => lhs; whnf) <;> rfl)) ?_
                  refine OW.callB rfl rfl rfl (by (conv => lhs; whnf) <;> rfl) (.cons (by (conv => lhs; whnf) <;> rfl) (.cons (by (conv => lhs; whnf) <;> rfl) (.cons (by (conv => lhs; whnf) <;> rfl) .nil))) en18 (fun w1 hw1 => idle_calls p (k : Int) now2 b b2 4 hpok hw1) ?_
                  rintro _ _ ⟨rfl, rfl⟩
                  rw [actE_in hkin]
                  refine OW.q rfl rfl (yq_assign rfl (by (conv => lhs; whnf) <;> rfl)) ?_
                  refine OW.nil ?_
                  exact ⟨actS (fun y => idleP y now2) p k, bd, Has.mk ⟨(by (conv => lhs; whnf) <;> rfl), (by (conv => lhs; whnf) <;> rfl), (by (conv => lhs; whnf) <;> rfl), (by (conv => lhs; whnf) <;> rfl), (by (conv => lhs; whnf) <;> rfl), (by (conv => lhs; whnf) <;> rfl), trivial⟩, actS_ok hpok _ fun _ h => idle_ok h _, by rw [actS_len]; exact hp4, hbd, @FairAll.act (fun y => idleP y now2) p bd bd now2 k hfa hp4 hk4 (fun j _ _ => rfl) ((hfa k hk4).idle (by omega) (by omega)), by rw [actS_len, actS_last]; try rfl⟩
                · refine CW.region ?_
                  refine OW.q rfl rfl (yq_move rfl (by (conv => lhs; whnf) <;> rfl)) ?_
                  refine OW.q rfl rfl (yq_move rfl (by (conv => lhs; whnf) <;> rfl)) ?_
                  refine OW.callB rfl rfl rfl (by (conv => lhs; whnf) <;> rfl) (.cons (by (conv => lhs; whnf) <;> rfl) (.cons (by (conv => lhs; whnf) <;> rfl) .nil)) en19 (fun w1 hw1 => next_calls p now2 b b2 4 hpok hw1) ?_
                  rintro _ _ ⟨rfl, rfl⟩
                  refine OW.nil ?_
                  exact ⟨nextS p now2, bd, Has.mk ⟨(by (conv => lhs; whnf) <;> rfl), (by (conv => lhs; whnf) <;> rfl), (by (conv => lhs; whnf) <;> rfl), (by (conv => lhs; whnf) <;> rfl), (by (conv => lhs; whnf) <;> rfl), (by (conv => lhs; whnf) <;> rfl), trivial⟩, nextS_ok hpok _, by rw [nextS_l]; exact hp4, hbd, FairAll.next hfa, by rw [nextS_l]; try rfl⟩
        · rintro _ _ ⟨p2, bd2, ⟨ρ', rfl⟩, hpok2, hp42, hbd2, hfa2, rfl⟩
          refine hK17 _ _ ?_
          refine CW.seq_k fun K24 hK24 => ?_
          refine CW.seq_k fun K25 hK25 => ?_
          refine CW.region ?_
          refine OW.q rfl rfl (yq_assign rfl (by (conv => lhs; whnf) <;> rfl)) ?_
          refine OW.nil ?_
          refine hK25 _ _ ?_
          refine CW.block ?_
          refine CW.loop (σ := Nat) (fun j ρ L => Has ρ [(0, v), (3, .pointer (some ⟨b, 0, none⟩)), (4, .int .i64 0), (5, .int .i64 now2), (6, .pointer (some ⟨b6, 0, none⟩)), (7, .int .i64 (i : Int)), (9, .int .i64 (j : Int))] ∧ j ≤ 4 ∧ L = [.blk b [.slice (some ⟨b2, 0, none⟩) (p2).l.length 4, .int .i64 ((p2).last : Int)] 55 (0, 0), .row (some b2) 4 (p2).l.length 42 4 ((p2).l.flatMap prC), .blk b6 (bdC bd2) 33 (0, 0)]) (fun j => 4 - j) (0) ?_ ?_
          · exact ⟨Has.mk ⟨(by (conv => lhs; whnf) <;> rfl), (by (conv => lhs; whnf) <;> rfl), (by (conv => lhs; whnf) <;> rfl), (by (conv => lhs; whnf) <;> rfl), (by (conv => lhs; whnf) <;> rfl), (by (conv => lhs; whnf) <;> rfl), (by (conv => lhs; whnf) <;> rfl), trivial⟩, by omega, rfl⟩
          · rintro j _ _ ⟨⟨ρ', rfl⟩, hj, rfl⟩
            refine CW.seq_k fun K26 hK26 => ?_
            refine CW.seq_k fun K27 hK27 => ?_
            refine CW.region ?_
            refine OW.q rfl rfl (yq_move rfl (by (conv => lhs; whnf) <;> rfl)) ?_
            refine OW.q rfl rfl (yq_lss rfl (by (conv => lhs; whnf) <;> rfl) (by (conv => lhs; whnf) <;> rfl)) ?_
            refine OW.nil ?_
            refine hK27 _ _ ?_
            refine CW.cond_dec (by (conv => lhs; whnf) <;> rfl) (fun hc11 => ?_) (fun hc11 => ?_)
            · have hj4 : j < 4 := by omega
              have hjk : j < p2.l.length := by omega
              have hfj := hfa2 j hj4
              refine CW.skip ?_
              refine hK26 _ _ ?_
              refine CW.seq_k fun K28 hK28 => ?_
              refine CW.block ?_
              refine CW.seq_k fun K29 hK29 => ?_
              refine CW.region ?_
              refine OW.q rfl rfl (yq_move rfl (by (conv => lhs; whnf) <;> rfl)) ?_
              refine OW.q rfl rfl (yq_move rfl (by (conv => lhs; whnf) <;> rfl)) ?_
              refine OW.q rfl rfl (yq_call rfl rfl (.cons (by (conv => lhs; whnf) <;> rfl) ( .cons (by (conv => lhs; whnf) <;> rfl) .nil)) en20 (fun w hw => state_ps p2 (j : Int) b b2 4 w (psAt_row hw (by repeat' first | exact List.mem_cons_self .. | apply List.mem_cons_of_mem) (by repeat' first | exact List.mem_cons_self .. | apply List.mem_cons_of_mem)) hpok2)) ?_
              refine OW.q rfl rfl (yq_move rfl (by (conv => lhs; whnf) <;> rfl)) ?_
              refine OW.q rfl rfl (yq_extract rfl (by (conv => lhs; whnf) <;> rfl) rfl) ?_
              refine OW.q rfl rfl (yq_extract rfl (by (conv => lhs; whnf) <;> rfl) rfl) ?_
              refine OW.alloc rfl rfl rfl tz42 (fun b10 => ?_)
              refine OW.store' rfl rfl rfl (by (conv => lhs; whnf) <;> rfl) (by (conv => lhs; whnf) <;> rfl) (vs := prC (stateX p2 (j : Int))) ti42 rfl (prC_one _) (by repeat' first | exact Put.head | apply Put.tail) (cs' := prC (stateX p2 (j : Int))) (by exact spl_all _ _ rfl) (by exact Nat.le_of_ble_eq_true rfl) ?_
              rw [actE_in (show inP p2 (j : Int) by unfold inP; omega), stateX_in hjk]
              refine OW.q rfl rfl (yq_assign rfl (by (conv => lhs; whnf) <;> rfl)) ?_
              refine OW.nil ?_
              refine hK29 _ _ ?_
              refine CW.seq_k fun K30 hK30 => ?_
              refine CW.region ?_
              cases hbj : bd2.getD j false
              · refine OW.q rfl rfl (yq_move rfl (by (conv => lhs; whnf) <;> rfl)) ?_
                refine OW.q rfl rfl ((yq_neq rfl (by (conv => lhs; whnf) <;> rfl) (by (conv => lhs; whnf) <;> rfl)).to (v' := .bool false) (by simp)) ?_
                refine OW.q rfl rfl (yq_move rfl (by (conv => lhs; whnf) <;> rfl)) ?_
                refine OW.q rfl rfl (yq_move rfl (by (conv => lhs; whnf) <;> rfl)) ?_
                refine OW.q rfl rfl ((yq_neq rfl (by (conv => lhs; whnf) <;> rfl) (by (conv => lhs; whnf) <;> rfl)).to (v' := .bool false) (by simp)) ?_
                refine OW.q rfl rfl (yq_pick rfl (by (conv => lhs; whnf) <;> rfl) (by (conv => lhs; whnf) <;> rfl)) ?_
                refine OW.q rfl rfl (yq_move rfl (by (conv => lhs; whnf) <;> rfl)) ?_
                refine OW.q rfl rfl (yq_move rfl (by (conv => lhs; whnf) <;> rfl)) ?_
                refine OW.q rfl rfl (yq_index_arr rfl (by (conv => lhs; whnf) <;> rfl) (by (conv => lhs; whnf) <;> rfl) ta33 ti4 (by omega) (by omega)) ?_
                refine OW.q rfl rfl (yq_load1 (v := .bool false) rfl (by (conv => lhs; whnf) <;> rfl) ti4 (by repeat' first | exact List.mem_cons_self .. | apply List.mem_cons_of_mem) (bd_at (by omega) hbj)) ?_
                refine OW.q rfl rfl ((yq_not rfl (by (conv => lhs; whnf) <;> rfl)).to (v' := .bool true) (by simp)) ?_
                refine OW.q rfl rfl (yq_move rfl (by (conv => lhs; whnf) <;> rfl)) ?_
                refine OW.q rfl rfl (yq_move rfl (by (conv => lhs; whnf) <;> rfl)) ?_
                refine OW.q rfl rfl (yq_move rfl (by (conv => lhs; whnf) <;> rfl)) ?_
                refine OW.q rfl rfl (yq_move rfl (by (conv => lhs; whnf) <;> rfl)) ?_
                refine OW.q rfl rfl ((yq_call rfl rfl (.cons (by (conv => lhs; whnf) <;> rfl) (.cons (by (conv => lhs; whnf) <;> rfl) (.cons (by (conv => lhs; whnf) <;> rfl) .nil))) en21 (fun w hw => barred_ps p2 (j : Int) now2 b b2 4 w (psAt_row hw (by repeat' first | exact List.mem_cons_self .. | apply List.mem_cons_of_mem) (by repeat' first | exact List.mem_cons_self .. | apply List.mem_cons_of_mem)) hpok2)).to (v' := .bool false) (congrArg Value.bool (decide_eq_false (hfa2.not_barred hj4 hbj)))) ?_
                refine OW.q rfl rfl (yq_move rfl (by (conv => lhs; whnf) <;> rfl)) ?_
                refine OW.q rfl rfl (yq_fieldAddr rfl (by (conv => lhs; whnf) <;> rfl) tf42_2 ti3) ?_
                refine OW.q rfl rfl (yq_load1 (v := .int .i64 (p2.get j).upto) rfl (by (conv => lhs; whnf) <;> rfl) ti3 (by repeat' first | exact List.mem_cons_self .. | apply List.mem_cons_of_mem) (by rfl)) ?_
                refine OW.q rfl rfl (yq_move rfl (by (conv => lhs; whnf) <;> rfl)) ?_
                refine OW.q rfl rfl (yq_add rfl (by (conv => lhs; whnf) <;> rfl) (by (conv => lhs; whnf) <;> rfl) (by omega)) ?_
                refine OW.q rfl rfl ((yq_gtr rfl (by (conv => lhs; whnf) <;> rfl) (by (conv => lhs; whnf) <;> rfl)).to (v' := .bool false) (congrArg Value.bool (decide_eq_false (by have := (hfj.2 hbj).2; omega)))) ?_
                refine OW.q rfl rfl (yq_pick rfl (by (conv => lhs; whnf) <;> rfl) (by (conv => lhs; whnf) <;> rfl)) ?_
                refine OW.q rfl rfl (yq_pick rfl (by (conv => lhs; whnf) <;> rfl) (by (conv => lhs; whnf) <;> rfl)) ?_
                refine OW.q rfl rfl (yq_pick rfl (by (conv => lhs; whnf) <;> rfl) (by (conv => lhs; whnf) <;> rfl)) ?_
                refine OW.q rfl rfl (yq_move rfl (by (conv => lhs; whnf) <;> rfl)) ?_
                refine OW.q rfl rfl (yq_fieldAddr rfl (by (conv => lhs; whnf) <;> rfl) tf42_2 ti3) ?_
                refine OW.q rfl rfl (yq_load1 (v := .int .i64 (p2.get j).upto) rfl (by (conv => lhs; whnf) <;> rfl) ti3 (by repeat' first | exact List.mem_cons_self .. | apply List.mem_cons_of_mem) (by rfl)) ?_
                refine OW.q rfl rfl (yq_move rfl (by (conv => lhs; whnf) <;> rfl)) ?_
                refine OW.q rfl rfl (yq_add rfl (by (conv => lhs; whnf) <;> rfl) (by (conv => lhs; whnf) <;> rfl) (by omega)) ?_
                refine OW.q rfl rfl ((yq_gtr rfl (by (conv => lhs; whnf) <;> rfl) (by (conv => lhs; whnf) <;> rfl)).to (v' := .bool false) (congrArg Value.bool (decide_eq_false (by have := hfj.1; omega)))) ?_
                refine OW.q rfl rfl (yq_pick rfl (by (conv => lhs; whnf) <;> rfl) (by (conv => lhs; whnf) <;> rfl)) ?_
                refine OW.nil ?_
                refine hK30 _ _ ?_
                refine CW.cond_f (by (conv => lhs; whnf) <;> rfl) ?_
                refine CW.skip ?_
                refine hK28 _ _ ?_
                refine CW.drop (List.sublist_cons_self _ _) ?_
                refine CW.region ?_
                refine OW.q rfl rfl (yq_move rfl (by (conv => lhs; whnf) <;> rfl)) ?_
                refine OW.q rfl rfl (yq_add rfl (by (conv => lhs; whnf) <;> rfl) (by (conv => lhs; whnf) <;> rfl) (by omega)) ?_
                refine OW.q rfl rfl (yq_assign rfl (by (conv => lhs; whnf) <;> rfl)) ?_
                refine OW.nil ?_
                exact ⟨j + 1, ⟨Has.mk ⟨(by (conv => lhs; whnf) <;> rfl), (by (conv => lhs; whnf) <;> rfl), (by (conv => lhs; whnf) <;> rfl), (by (conv => lhs; whnf) <;> rfl), (by (conv => lhs; whnf) <;> rfl), (by (conv => lhs; whnf) <;> rfl), (by (conv => lhs; whnf) <;> rfl), trivial⟩, by omega, rfl⟩, by omega⟩
              · refine OW.q rfl rfl (yq_move rfl (by (conv => lhs; whnf) <;> rfl)) ?_
                refine OW.q rfl rfl ((yq_neq rfl (by (conv => lhs; whnf) <;> rfl) (by (conv => lhs; whnf) <;> rfl)).to (v' := .bool false) (by simp)) ?_
                refine OW.q rfl rfl (yq_move rfl (by (conv => lhs; whnf) <;> rfl)) ?_
                refine OW.q rfl rfl (yq_move rfl (by (conv => lhs; whnf) <;> rfl)) ?_
                refine OW.q rfl rfl ((yq_neq rfl (by (conv => lhs; whnf) <;> rfl) (by (conv => lhs; whnf) <;> rfl)).to (v' := .bool false) (by simp)) ?_
                refine OW.q rfl rfl (yq_pick rfl (by (conv => lhs; whnf) <;> rfl) (by (conv => lhs; whnf) <;> rfl)) ?_
                refine OW.q rfl rfl (yq_move rfl (by (conv => lhs; whnf) <;> rfl)) ?_
                refine OW.q rfl rfl (yq_move rfl (by (conv => lhs; whnf) <;> rfl)) ?_
                refine OW.q rfl rfl (yq_index_arr rfl (by (conv => lhs; whnf) <;> rfl) (by (conv => lhs; whnf) <;> rfl) ta33 ti4 (by omega) (by omega)) ?_
                refine OW.q rfl rfl (yq_load1 (v := .bool true) rfl (by (conv => lhs; whnf) <;> rfl) ti4 (by repeat' first | exact List.mem_cons_self .. | apply List.mem_cons_of_mem) (bd_at (by omega) hbj)) ?_
                refine OW.q rfl rfl ((yq_not rfl (by (conv => lhs; whnf) <;> rfl)).to (v' := .bool false) (by simp)) ?_
                refine OW.q rfl rfl (yq_move rfl (by (conv => lhs; whnf) <;> rfl)) ?_
                refine OW.skip rfl rfl ?_
                refine OW.skip rfl rfl ?_
                refine OW.skip rfl rfl ?_
                refine OW.skip rfl rfl ?_
                refine OW.skip rfl rfl ?_
                refine OW.skip rfl rfl ?_
                refine OW.skip rfl rfl ?_
                refine OW.skip rfl rfl ?_
                refine OW.skip rfl rfl ?_
                refine OW.skip rfl rfl ?_
                refine OW.skip rfl rfl ?_
                refine OW.q rfl rfl (yq_pick rfl (by (conv => lhs; whnf) <;> rfl) (by (conv => lhs; whnf) <;> rfl)) ?_
                refine OW.q rfl rfl (yq_pick rfl (by (conv => lhs; whnf) <;> rfl) (by (conv => lhs; whnf) <;> rfl)) ?_
                refine OW.q rfl rfl (yq_move rfl (by (conv => lhs; whnf) <;> rfl)) ?_
                refine OW.q rfl rfl (yq_fieldAddr rfl (by (conv => lhs; whnf) <;> rfl) tf42_2 ti3) ?_
                refine OW.q rfl rfl (yq_load1 (v := .int .i64 (p2.get j).upto) rfl (by (conv => lhs; whnf) <;> rfl) ti3 (by repeat' first | exact List.mem_cons_self .. | apply List.mem_cons_of_mem) (by rfl)) ?_
                refine OW.q rfl rfl (yq_move rfl (by (conv => lhs; whnf) <;> rfl)) ?_
                refine OW.q rfl rfl (yq_add rfl (by (conv => lhs; whnf) <;> rfl) (by (conv => lhs; whnf) <;> rfl) (by omega)) ?_
                refine OW.q rfl rfl ((yq_gtr rfl (by (conv => lhs; whnf) <;> rfl) (by (conv => lhs; whnf) <;> rfl)).to (v' := .bool false) (congrArg Value.bool (decide_eq_false (by have := hfj.1; omega)))) ?_
                refine OW.q rfl rfl (yq_pick rfl (by (conv => lhs; whnf) <;> rfl) (by (conv => lhs; whnf) <;> rfl)) ?_
                refine OW.nil ?_
                refine hK30 _ _ ?_
                refine CW.cond_f (by (conv => lhs; whnf) <;> rfl) ?_
                refine CW.skip ?_
                refine hK28 _ _ ?_
                refine CW.drop (List.sublist_cons_self _ _) ?_
                refine CW.region ?_
                refine OW.q rfl rfl (yq_move rfl (by (conv => lhs; whnf) <;> rfl)) ?_
                refine OW.q rfl rfl (yq_add rfl (by (conv => lhs; whnf) <;> rfl) (by (conv => lhs; whnf) <;> rfl) (by omega)) ?_
                refine OW.q rfl rfl (yq_assign rfl (by (conv => lhs; whnf) <;> rfl)) ?_
                refine OW.nil ?_
                exact ⟨j + 1, ⟨Has.mk ⟨(by (conv => lhs; whnf) <;> rfl), (by (conv => lhs; whnf) <;> rfl), (by (conv => lhs; whnf) <;> rfl), (by (conv => lhs; whnf) <;> rfl), (by (conv => lhs; whnf) <;> rfl), (by (conv => lhs; whnf) <;> rfl), (by (conv => lhs; whnf) <;> rfl), trivial⟩, by omega, rfl⟩, by omega⟩
            · obtain ⟨q, hq⟩ := nextI_all hpok2 (hfa2.all hp42 (by omega) (by omega))
              obtain ⟨e1, e2⟩ := next_some hq
              refine CW.exit ?_
              refine then_exit ?_
              refine then_exit ?_
              refine blockQ_hit ?_
              refine hK24 _ _ ?_
              refine CW.seq_k fun K31 hK31 => ?_
              refine CW.region ?_
              refine OW.q rfl rfl (yq_move rfl (by (conv => lhs; whnf) <;> rfl)) ?_
              refine OW.q rfl rfl (yq_move rfl (by (conv => lhs; whnf) <;> rfl)) ?_
              refine OW.q rfl rfl (yq_add rfl (by (conv => lhs; whnf) <;> rfl) (by (conv => lhs; whnf) <;> rfl) (by omega)) ?_
              refine OW.callB rfl rfl rfl (by (conv => lhs; whnf) <;> rfl) (.cons (by (conv => lhs; whnf) <;> rfl) (.cons (by (conv => lhs; whnf) <;> rfl) .nil)) en19 (fun w1 hw1 => next_calls p2 (now2 + 1024) b b2 4 hpok2 hw1) ?_
              rintro _ _ ⟨rfl, rfl⟩
              rw [e1, e2]
              refine OW.q rfl rfl (yq_move rfl (by (conv => lhs; whnf) <;> rfl)) ?_
              refine OW.q rfl rfl (yq_extract rfl (by (conv => lhs; whnf) <;> rfl) rfl) ?_
              refine OW.q rfl rfl (yq_extract rfl (by (conv => lhs; whnf) <;> rfl) rfl) ?_
              refine OW.q rfl rfl (yq_assign rfl (by (conv => lhs; whnf) <;> rfl)) ?_
              refine OW.q rfl rfl (yq_assign rfl (by (conv => lhs; whnf) <;> rfl)) ?_
              refine OW.nil ?_
              refine hK31 _ _ ?_
              refine CW.seq_k fun K32 hK32 => ?_
              refine CW.region ?_
              refine OW.q rfl rfl (yq_move rfl (by (conv => lhs; whnf) <;> rfl)) ?_
              refine OW.q rfl rfl ((yq_not rfl (by (conv => lhs; whnf) <;> rfl)).to (v' := .bool false) (by simp)) ?_
              refine OW.nil ?_
              refine hK32 _ _ ?_
              refine CW.cond_f (by (conv => lhs; whnf) <;> rfl) ?_
              refine CW.skip ?_
              refine hK14 _ _ ?_
              refine CW.region ?_
              refine OW.q rfl rfl (yq_move rfl (by (conv => lhs; whnf) <;> rfl)) ?_
              refine OW.q rfl rfl (yq_add rfl (by (conv => lhs; whnf) <;> rfl) (by (conv => lhs; whnf) <;> rfl) (by omega)) ?_
              refine OW.q rfl rfl (yq_assign rfl (by (conv => lhs; whnf) <;> rfl)) ?_
              refine OW.nil ?_
              exact ⟨(i + 1, ⟨p2.l, q⟩, now2, bd2), ⟨Has.mk ⟨(by (conv => lhs; whnf) <;> rfl), (by (conv => lhs; whnf) <;> rfl), (by (conv => lhs; whnf) <;> rfl), (by (conv => lhs; whnf) <;> rfl), (by (conv => lhs; whnf) <;> rfl), (by (conv => lhs; whnf) <;> rfl), trivial⟩, by omega, by rw [← e2]; exact nextS_ok hpok2 _, hp42, by omega, by omega, hbd2, hfa2, rfl⟩, by show l.length - (i + 1) < l.length - i; omega⟩
      · refine CW.exit ?_
        refine then_exit ?_
        refine then_exit ?_
        refine blockQ_hit ?_
        refine hK10 _ _ ?_
        refine CW.seq_k fun K33 hK33 => ?_
        refine CW.region ?_
        refine OW.q rfl rfl (yq_call rfl rfl .nil en13 (fun w hw => asks_calls w)) ?_
        refine OW.q rfl rfl (yq_assign rfl (by (conv => lhs; whnf) <;> rfl)) ?_
        refine OW.nil ?_
        refine hK33 _ _ ?_
        refine CW.ret ?_
        -- ret (ret)
        exact fin1 (Or.inr rfl) rfl ⟨by decide, (by (conv => lhs; whnf) <;> rfl)⟩ (fun w hw => ⟨rfl, hw.sub (List.nil_sublist _)⟩)

end Go.Proofs.Ytahdekllphehkaa
