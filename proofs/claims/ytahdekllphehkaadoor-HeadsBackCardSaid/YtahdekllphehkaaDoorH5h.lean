/- Heads got of bytes; no statement of the seat is proved here. -/
import Derived.Test.YtahdekllphehkaaDoorH4h
set_option linter.unusedVariables false
set_option linter.unusedSimpArgs false
namespace Go.Proofs.YtahdekllphehkaaDoor
open Go.WL Go.Spec
set_option maxRecDepth 100000 in
set_option maxHeartbeats 1000000 in
theorem get2_calls (t : Bytes) (w : World) (ht : t.length ≤ 4294967296) :
    Calls Tryd.prog 66 #[.string (bs t)] w fun e w' => ∃ v L1, e = .returned v ∧ Cl w [] L1 w' ∧ ∃ u, v = .tuple #[u, .int .i64 (getI t)] ∧ OutSg u L1 (getR t) := by
  obtain ⟨⟨nn, r1, oa⟩, h1⟩ : ∃ x, readF t = x := ⟨_, rfl⟩
  obtain ⟨⟨hh, r2, ob⟩, h2⟩ : ∃ x, unhashF r1 = x := ⟨_, rfl⟩
  obtain ⟨⟨ii, r3, oc⟩, h3⟩ : ∃ x, readF r2 = x := ⟨_, rfl⟩
  obtain ⟨⟨ss, r4, od⟩, h4⟩ : ∃ x, cutF r3 = x := ⟨_, rfl⟩
  obtain ⟨⟨pp, r5, oe⟩, h5⟩ : ∃ x, unhashesF r4 = x := ⟨_, rfl⟩
  have hF : fldsF t = ⟨nn, oa, hh, ob, ii, oc, ss, od, pp, oe, r5⟩ := by unfold fldsF; simp only [h1, h2, h3, h4, h5]
  have q1 := readF_len t
  have q2 := unhashF_len r1
  have q3 := readF_len r2
  have q4 := cutF_len r3
  have q5 := unhashesF_len r4
  have n1 := readF_lt t
  have n3 := readF_lt r2
  rw [h1] at q1 n1
  rw [h2] at q2
  rw [h3] at q3 n3
  rw [h4] at q4
  rw [h5] at q5
  simp only at q1 q2 q3 q4 q5 n1 n3
  have hnu := u64_nat n1
  have hiu := u64_nat n3
  have c1 : ∀ w, Calls Tryd.prog 109 #[.string (bs t)] w fun e w' => e = .returned (.tuple #[U64 (UInt64.ofNat nn), .string (bs r1), .bool oa]) ∧ Cl w [] [] w' := fun w => by
    have := read_calls t w (by omega); unfold readV at this; rwa [h1] at this
  have c2 : ∀ w, Calls Tryd.prog 111 #[.string (bs r1)] w fun e w' => e = .returned (.tuple #[HV hh, .string (bs r2), .bool ob]) ∧ Cl w [] [] w' := fun w => by
    have := unhash_calls r1 w (by omega); rw [unhashV_F] at this; rwa [h2] at this
  have c3 : ∀ w, Calls Tryd.prog 109 #[.string (bs r2)] w fun e w' => e = .returned (.tuple #[U64 (UInt64.ofNat ii), .string (bs r3), .bool oc]) ∧ Cl w [] [] w' := fun w => by
    have := read_calls r2 w (by omega); unfold readV at this; rwa [h3] at this
  have c4 : ∀ w, Calls Tryd.prog 133 #[.string (bs r3)] w fun e w' => e = .returned (.tuple #[.string (bs ss), .string (bs r4), .bool od]) ∧ Cl w [] [] w' := fun w => by
    have := cut_calls r3 w (by omega); unfold cutV at this; rwa [h4] at this
  have c5 : ∀ w, Calls Tryd.prog 112 #[.string (bs r4)] w fun e w' => ∃ v L1, e = .returned v ∧ Cl w [] L1 w' ∧ ∃ u, v = .tuple #[u, .string (bs r5), .bool oe] ∧ OutHs u L1 pp := fun w => by
    have := unhashes_calls r4 w (by omega); rwa [h5] at this
  refine calls_of_CW (L := []) Tryd.func66 rfl (Nat.le_of_ble_eq_true rfl) (Cl.refl _) ?_
  refine CW.seq_k fun K1 hK1 => ?_
  refine CW.region ?_
  refine OW.alloc rfl rfl rfl tz46 (fun b2 => ?_)
  refine OW.q rfl rfl (yq_assign rfl (by (conv => lhs; whnf) <;> rfl)) ?_
  refine OW.nil ?_
  refine hK1 _ _ ?_
  refine CW.seq_k fun K2 hK2 => ?_
  refine CW.region ?_
  refine OW.q rfl rfl (yq_move rfl (by (conv => lhs; whnf) <;> rfl)) ?_
  refine OW.q rfl rfl (yq_call rfl rfl (.cons (by (conv => lhs; whnf) <;> rfl) .nil) en109 (fun w hw => c1 w)) ?_
  refine OW.q rfl rfl (yq_move rfl (by (conv => lhs; whnf) <;> rfl)) ?_
  refine OW.q rfl rfl (yq_extract rfl (by (conv => lhs; whnf) <;> rfl) rfl) ?_
  refine OW.q rfl rfl (yq_extract rfl (by (conv => lhs; whnf) <;> rfl) rfl) ?_
  refine OW.q rfl rfl (yq_extract rfl (by (conv => lhs; whnf) <;> rfl) rfl) ?_
  refine OW.q rfl rfl (yq_assign rfl (by (conv => lhs; whnf) <;> rfl)) ?_
  refine OW.q rfl rfl (yq_assign rfl (by (conv => lhs; whnf) <;> rfl)) ?_
  refine OW.q rfl rfl (yq_assign rfl (by (conv => lhs; whnf) <;> rfl)) ?_
  refine OW.nil ?_
  refine hK2 _ _ ?_
  refine CW.seq_k fun K3 hK3 => ?_
  refine CW.region ?_
  refine OW.q rfl rfl (yq_move rfl (by (conv => lhs; whnf) <;> rfl)) ?_
  refine OW.q rfl rfl (yq_call rfl rfl (.cons (by (conv => lhs; whnf) <;> rfl) .nil) en111 (fun w hw => c2 w)) ?_
  refine OW.q rfl rfl (yq_move rfl (by (conv => lhs; whnf) <;> rfl)) ?_
  refine OW.q rfl rfl (yq_extract rfl (by (conv => lhs; whnf) <;> rfl) rfl) ?_
  refine OW.q rfl rfl (yq_extract rfl (by (conv => lhs; whnf) <;> rfl) rfl) ?_
  refine OW.q rfl rfl (yq_extract rfl (by (conv => lhs; whnf) <;> rfl) rfl) ?_
  refine OW.alloc rfl rfl rfl tz25 (fun b7 => ?_)
  refine OW.storeH rfl rfl rfl (by (conv => lhs; whnf) <;> rfl) (by (conv => lhs; whnf) <;> rfl) ti25 (by repeat' first | exact Put.head | apply Put.tail) (hc_length _) ?_
  refine OW.q rfl rfl (yq_assign rfl (by (conv => lhs; whnf) <;> rfl)) ?_
  refine OW.q rfl rfl (yq_assign rfl (by (conv => lhs; whnf) <;> rfl)) ?_
  refine OW.nil ?_
  refine hK3 _ _ ?_
  refine CW.seq_k fun K4 hK4 => ?_
  refine CW.region ?_
  refine OW.q rfl rfl (yq_move rfl (by (conv => lhs; whnf) <;> rfl)) ?_
  refine OW.q rfl rfl (yq_call rfl rfl (.cons (by (conv => lhs; whnf) <;> rfl) .nil) en109 (fun w hw => c3 w)) ?_
  refine OW.q rfl rfl (yq_move rfl (by (conv => lhs; whnf) <;> rfl)) ?_
  refine OW.q rfl rfl (yq_extract rfl (by (conv => lhs; whnf) <;> rfl) rfl) ?_
  refine OW.q rfl rfl (yq_extract rfl (by (conv => lhs; whnf) <;> rfl) rfl) ?_
  refine OW.q rfl rfl (yq_extract rfl (by (conv => lhs; whnf) <;> rfl) rfl) ?_
  refine OW.q rfl rfl (yq_assign rfl (by (conv => lhs; whnf) <;> rfl)) ?_
  refine OW.q rfl rfl (yq_assign rfl (by (conv => lhs; whnf) <;> rfl)) ?_
  refine OW.q rfl rfl (yq_assign rfl (by (conv => lhs; whnf) <;> rfl)) ?_
  refine OW.nil ?_
  refine hK4 _ _ ?_
  refine CW.seq_k fun K5 hK5 => ?_
  refine CW.region ?_
  refine OW.q rfl rfl (yq_move rfl (by (conv => lhs; whnf) <;> rfl)) ?_
  refine OW.q rfl rfl (yq_call rfl rfl (.cons (by (conv => lhs; whnf) <;> rfl) .nil) en133 (fun w hw => c4 w)) ?_
  refine OW.q rfl rfl (yq_move rfl (by (conv => lhs; whnf) <;> rfl)) ?_
  refine OW.q rfl rfl (yq_extract rfl (by (conv => lhs; whnf) <;> rfl) rfl) ?_
  refine OW.q rfl rfl (yq_extract rfl (by (conv => lhs; whnf) <;> rfl) rfl) ?_
  refine OW.q rfl rfl (yq_extract rfl (by (conv => lhs; whnf) <;> rfl) rfl) ?_
  refine OW.q rfl rfl (yq_assign rfl (by (conv => lhs; whnf) <;> rfl)) ?_
  refine OW.q rfl rfl (yq_assign rfl (by (conv => lhs; whnf) <;> rfl)) ?_
  refine OW.q rfl rfl (yq_assign rfl (by (conv => lhs; whnf) <;> rfl)) ?_
  refine OW.nil ?_
  refine hK5 _ _ ?_
  refine CW.seq_k fun K6 hK6 => ?_
  refine CW.region ?_
  refine OW.q rfl rfl (yq_move rfl (by (conv => lhs; whnf) <;> rfl)) ?_
  refine OW.calln rfl rfl rfl (by (conv => lhs; whnf) <;> rfl) (.cons (by (conv => lhs; whnf) <;> rfl) .nil) en112 (fun w hw => c5 w) ?_
  rintro _ _ ⟨u, rfl, a5, cp5, rfl, rfl⟩
  refine OW.q rfl rfl (yq_move rfl (by (conv => lhs; whnf) <;> rfl)) ?_
  refine OW.q rfl rfl (yq_extract rfl (by (conv => lhs; whnf) <;> rfl) rfl) ?_
  refine OW.q rfl rfl (yq_extract rfl (by (conv => lhs; whnf) <;> rfl) rfl) ?_
  refine OW.q rfl rfl (yq_extract rfl (by (conv => lhs; whnf) <;> rfl) rfl) ?_
  refine OW.q rfl rfl (yq_assign rfl (by (conv => lhs; whnf) <;> rfl)) ?_
  refine OW.q rfl rfl (yq_assign rfl (by (conv => lhs; whnf) <;> rfl)) ?_
  refine OW.q rfl rfl (yq_assign rfl (by (conv => lhs; whnf) <;> rfl)) ?_
  refine OW.nil ?_
  refine hK6 _ _ ?_
  refine CW.cutR (fun ρ L => ∃ b15, Has ρ [(2, .pointer (some ⟨b2, 0, none⟩)), (5, .string (bs r5)), (6, .bool oa), (8, .bool ob), (10, .bool oc), (12, .bool od), (14, .bool oe), (15, .pointer (some ⟨b15, 0, none⟩))] ∧ L = [.blk b15 (sgC (Sg.mk (small nn) hh (small ii) ss pp) (rowV a5 pp.length cp5)) 46 (0, 0), .row a5 cp5 pp.length 25 32 (pp.flatMap hc), .blk b7 (hc hh) 25 (0, 0), .blk b2 (sgC Sg.none (.slice none 0 0)) 46 (0, 0)]) ?_ ?_
  · refine CW.held ([.row a5 cp5 pp.length 25 32 (pp.flatMap hc), .blk b7 (hc hh) 25 (0, 0), .blk b2 (sgC Sg.none (.slice none 0 0)) 46 (0, 0)]) mixed ?_
    refine HW.take 0 rfl (by kernel_rfl) (by kernel_rfl) (by kernel_rfl) rfl rfl (by repeat' first | exact List.Sublist.refl _ | exact List.nil_sublist _ | apply List.Sublist.cons_cons | apply List.Sublist.cons) (yv_of_yq rfl (yq_move rfl (by (conv => lhs; whnf) <;> rfl))) ?_
    refine HW.take 2 rfl (by kernel_rfl) (by kernel_rfl) (by kernel_rfl) rfl rfl (by repeat' first | exact List.Sublist.refl _ | exact List.nil_sublist _ | apply List.Sublist.cons_cons | apply List.Sublist.cons) (yv_of_yq rfl ((yq_loadH (v := hh) rfl (by (conv => lhs; whnf) <;> rfl) ti25 (by repeat' first | exact List.mem_cons_self .. | apply List.mem_cons_of_mem)))) ?_
    refine HW.take 4 rfl (by kernel_rfl) (by kernel_rfl) (by kernel_rfl) rfl rfl (by repeat' first | exact List.Sublist.refl _ | exact List.nil_sublist _ | apply List.Sublist.cons_cons | apply List.Sublist.cons) (yv_of_yq rfl (yq_move rfl (by (conv => lhs; whnf) <;> rfl))) ?_
    refine HW.take 6 rfl (by kernel_rfl) (by kernel_rfl) (by kernel_rfl) rfl rfl (by repeat' first | exact List.Sublist.refl _ | exact List.nil_sublist _ | apply List.Sublist.cons_cons | apply List.Sublist.cons) (yv_of_yq rfl (yq_move rfl (by (conv => lhs; whnf) <;> rfl))) ?_
    refine HW.take 7 rfl (by kernel_rfl) (by kernel_rfl) (by kernel_rfl) rfl rfl (by repeat' first | exact List.Sublist.refl _ | exact List.nil_sublist _ | apply List.Sublist.cons_cons | apply List.Sublist.cons) (yv_of_yq rfl (yq_move rfl (by (conv => lhs; whnf) <;> rfl))) ?_
    refine HW.two 1 10 (by kernel_rfl) rfl rfl ?_ ?_
    · refine OW.q rfl rfl (yq_call rfl rfl (.cons (by (conv => lhs; whnf) <;> rfl) .nil) en134 (fun w hw => small_calls nn w n1)) ?_
      refine OW.nil ⟨rfl, (by repeat' first | exact List.Sublist.refl _ | exact List.nil_sublist _ | apply List.Sublist.cons_cons | apply List.Sublist.cons), ?_⟩
      refine HW.take 3 rfl (by kernel_rfl) (by kernel_rfl) (by kernel_rfl) rfl rfl (by repeat' first | exact List.Sublist.refl _ | exact List.nil_sublist _ | apply List.Sublist.cons_cons | apply List.Sublist.cons) (yv_of_yq rfl ((yq_build (cs := headC (small nn) hh) rfl rfl (built33 _ _)))) ?_
      refine HW.two 5 10 (by kernel_rfl) rfl rfl ?_ ?_
      · refine OW.q rfl rfl (yq_call rfl rfl (.cons (by (conv => lhs; whnf) <;> rfl) .nil) en134 (fun w hw => small_calls ii w n3)) ?_
        refine OW.nil ⟨rfl, (by repeat' first | exact List.Sublist.refl _ | exact List.nil_sublist _ | apply List.Sublist.cons_cons | apply List.Sublist.cons), ?_⟩
        refine HW.take 8 rfl (by kernel_rfl) (by kernel_rfl) (by kernel_rfl) rfl rfl (by repeat' first | exact List.Sublist.refl _ | exact List.nil_sublist _ | apply List.Sublist.cons_cons | apply List.Sublist.cons) (yv_of_yq rfl ((yq_build (cs := sealC (Sg.mk (small nn) hh (small ii) ss pp) (rowV a5 pp.length cp5)) rfl rfl (by kernel_rfl)))) ?_
        refine HW.take 9 rfl (by kernel_rfl) (by kernel_rfl) (by kernel_rfl) rfl rfl (by repeat' first | exact List.Sublist.refl _ | exact List.nil_sublist _ | apply List.Sublist.cons_cons | apply List.Sublist.cons) (yv_of_yq rfl ((yq_build (cs := sgC (Sg.mk (small nn) hh (small ii) ss pp) (rowV a5 pp.length cp5)) rfl rfl (built46 (Sg.mk (small nn) hh (small ii) ss pp) (rowV a5 pp.length cp5))))) ?_
        refine HW.one 10 (by kernel_rfl) rfl ?_
        refine OW.alloc rfl rfl rfl tz46 (fun b15 => ?_)
        refine OW.nil ⟨rfl, (by repeat' first | exact List.Sublist.refl _ | exact List.nil_sublist _ | apply List.Sublist.cons_cons | apply List.Sublist.cons), ?_⟩
        refine HW.one 11 (by kernel_rfl) rfl ?_
        refine OW.store' rfl rfl rfl (by (conv => lhs; whnf) <;> rfl) (by (conv => lhs; whnf) <;> rfl) (vs := sgC (Sg.mk (small nn) hh (small ii) ss pp) (rowV a5 pp.length cp5)) (by rw [sgC_length]; exact ti46) rfl (sgC_one rfl) (by repeat' first | exact Put.head | apply Put.tail) (cs' := sgC (Sg.mk (small nn) hh (small ii) ss pp) (rowV a5 pp.length cp5)) (spl_eqlen (by first | (simp only [sgC_length]; done) | (simp only [sgC_length]; rfl))) (by simp only [sgC_length]; exact Nat.le_of_ble_eq_true rfl) ?_
        refine OW.nil ⟨rfl, (by repeat' first | exact List.Sublist.refl _ | exact List.nil_sublist _ | apply List.Sublist.cons_cons | apply List.Sublist.cons), ?_⟩
        refine HW.done (by kernel_rfl) ?_
        exact ⟨rfl, b15, Has.mk ⟨(by (conv => lhs; whnf) <;> rfl), (by (conv => lhs; whnf) <;> rfl), (by (conv => lhs; whnf) <;> rfl), (by (conv => lhs; whnf) <;> rfl), (by (conv => lhs; whnf) <;> rfl), (by (conv => lhs; whnf) <;> rfl), (by (conv => lhs; whnf) <;> rfl), (by (conv => lhs; whnf) <;> rfl), trivial⟩, rfl⟩
      · refine OW.alloc rfl rfl rfl tz46 (fun b15 => ?_)
        refine OW.nil ⟨rfl, (by repeat' first | exact List.Sublist.refl _ | exact List.nil_sublist _ | apply List.Sublist.cons_cons | apply List.Sublist.cons), ?_⟩
        refine HW.one 5 (by kernel_rfl) rfl ?_
        refine OW.q rfl rfl (yq_call rfl rfl (.cons (by (conv => lhs; whnf) <;> rfl) .nil) en134 (fun w hw => small_calls ii w n3)) ?_
        refine OW.nil ⟨rfl, (by repeat' first | exact List.Sublist.refl _ | exact List.nil_sublist _ | apply List.Sublist.cons_cons | apply List.Sublist.cons), ?_⟩
        refine HW.take 8 rfl (by kernel_rfl) (by kernel_rfl) (by kernel_rfl) rfl rfl (by repeat' first | exact List.Sublist.refl _ | exact List.nil_sublist _ | apply List.Sublist.cons_cons | apply List.Sublist.cons) (yv_of_yq rfl ((yq_build (cs := sealC (Sg.mk (small nn) hh (small ii) ss pp) (rowV a5 pp.length cp5)) rfl rfl (by kernel_rfl)))) ?_
        refine HW.take 9 rfl (by kernel_rfl) (by kernel_rfl) (by kernel_rfl) rfl rfl (by repeat' first | exact List.Sublist.refl _ | exact List.nil_sublist _ | apply List.Sublist.cons_cons | apply List.Sublist.cons) (yv_of_yq rfl ((yq_build (cs := sgC (Sg.mk (small nn) hh (small ii) ss pp) (rowV a5 pp.length cp5)) rfl rfl (built46 (Sg.mk (small nn) hh (small ii) ss pp) (rowV a5 pp.length cp5))))) ?_
        refine HW.one 11 (by kernel_rfl) rfl ?_
        refine OW.store' rfl rfl rfl (by (conv => lhs; whnf) <;> rfl) (by (conv => lhs; whnf) <;> rfl) (vs := sgC (Sg.mk (small nn) hh (small ii) ss pp) (rowV a5 pp.length cp5)) (by rw [sgC_length]; exact ti46) rfl (sgC_one rfl) (by repeat' first | exact Put.head | apply Put.tail) (cs' := sgC (Sg.mk (small nn) hh (small ii) ss pp) (rowV a5 pp.length cp5)) (spl_eqlen (by first | (simp only [sgC_length]; done) | (simp only [sgC_length]; rfl))) (by simp only [sgC_length]; exact Nat.le_of_ble_eq_true rfl) ?_
        refine OW.nil ⟨rfl, (by repeat' first | exact List.Sublist.refl _ | exact List.nil_sublist _ | apply List.Sublist.cons_cons | apply List.Sublist.cons), ?_⟩
        refine HW.done (by kernel_rfl) ?_
        exact ⟨rfl, b15, Has.mk ⟨(by (conv => lhs; whnf) <;> rfl), (by (conv => lhs; whnf) <;> rfl), (by (conv => lhs; whnf) <;> rfl), (by (conv => lhs; whnf) <;> rfl), (by (conv => lhs; whnf) <;> rfl), (by (conv => lhs; whnf) <;> rfl), (by (conv => lhs; whnf) <;> rfl), (by (conv => lhs; whnf) <;> rfl), trivial⟩, rfl⟩
    · refine OW.alloc rfl rfl rfl tz46 (fun b15 => ?_)
      refine OW.nil ⟨rfl, (by repeat' first | exact List.Sublist.refl _ | exact List.nil_sublist _ | apply List.Sublist.cons_cons | apply List.Sublist.cons), ?_⟩
      refine HW.one 1 (by kernel_rfl) rfl ?_
      refine OW.q rfl rfl (yq_call rfl rfl (.cons (by (conv => lhs; whnf) <;> rfl) .nil) en134 (fun w hw => small_calls nn w n1)) ?_
      refine OW.nil ⟨rfl, (by repeat' first | exact List.Sublist.refl _ | exact List.nil_sublist _ | apply List.Sublist.cons_cons | apply List.Sublist.cons), ?_⟩
      refine HW.take 3 rfl (by kernel_rfl) (by kernel_rfl) (by kernel_rfl) rfl rfl (by repeat' first | exact List.Sublist.refl _ | exact List.nil_sublist _ | apply List.Sublist.cons_cons | apply List.Sublist.cons) (yv_of_yq rfl ((yq_build (cs := headC (small nn) hh) rfl rfl (built33 _ _)))) ?_
      refine HW.one 5 (by kernel_rfl) rfl ?_
      refine OW.q rfl rfl (yq_call rfl rfl (.cons (by (conv => lhs; whnf) <;> rfl) .nil) en134 (fun w hw => small_calls ii w n3)) ?_
      refine OW.nil ⟨rfl, (by repeat' first | exact List.Sublist.refl _ | exact List.nil_sublist _ | apply List.Sublist.cons_cons | apply List.Sublist.cons), ?_⟩
      refine HW.take 8 rfl (by kernel_rfl) (by kernel_rfl) (by kernel_rfl) rfl rfl (by repeat' first | exact List.Sublist.refl _ | exact List.nil_sublist _ | apply List.Sublist.cons_cons | apply List.Sublist.cons) (yv_of_yq rfl ((yq_build (cs := sealC (Sg.mk (small nn) hh (small ii) ss pp) (rowV a5 pp.length cp5)) rfl rfl (by kernel_rfl)))) ?_
      refine HW.take 9 rfl (by kernel_rfl) (by kernel_rfl) (by kernel_rfl) rfl rfl (by repeat' first | exact List.Sublist.refl _ | exact List.nil_sublist _ | apply List.Sublist.cons_cons | apply List.Sublist.cons) (yv_of_yq rfl ((yq_build (cs := sgC (Sg.mk (small nn) hh (small ii) ss pp) (rowV a5 pp.length cp5)) rfl rfl (built46 (Sg.mk (small nn) hh (small ii) ss pp) (rowV a5 pp.length cp5))))) ?_
      refine HW.one 11 (by kernel_rfl) rfl ?_
      refine OW.store' rfl rfl rfl (by (conv => lhs; whnf) <;> rfl) (by (conv => lhs; whnf) <;> rfl) (vs := sgC (Sg.mk (small nn) hh (small ii) ss pp) (rowV a5 pp.length cp5)) (by rw [sgC_length]; exact ti46) rfl (sgC_one rfl) (by repeat' first | exact Put.head | apply Put.tail) (cs' := sgC (Sg.mk (small nn) hh (small ii) ss pp) (rowV a5 pp.length cp5)) (spl_eqlen (by first | (simp only [sgC_length]; done) | (simp only [sgC_length]; rfl))) (by simp only [sgC_length]; exact Nat.le_of_ble_eq_true rfl) ?_
      refine OW.nil ⟨rfl, (by repeat' first | exact List.Sublist.refl _ | exact List.nil_sublist _ | apply List.Sublist.cons_cons | apply List.Sublist.cons), ?_⟩
      refine HW.done (by kernel_rfl) ?_
      exact ⟨rfl, b15, Has.mk ⟨(by (conv => lhs; whnf) <;> rfl), (by (conv => lhs; whnf) <;> rfl), (by (conv => lhs; whnf) <;> rfl), (by (conv => lhs; whnf) <;> rfl), (by (conv => lhs; whnf) <;> rfl), (by (conv => lhs; whnf) <;> rfl), (by (conv => lhs; whnf) <;> rfl), (by (conv => lhs; whnf) <;> rfl), trivial⟩, rfl⟩
  · rintro _ _ ⟨b15, ⟨ρ', rfl⟩, rfl⟩
    refine CW.seq_k fun K7 hK7 => ?_
    refine CW.seq_k fun K8 hK8 => ?_
    refine CW.region ?_
    refine OW.q rfl rfl (yq_move rfl (by (conv => lhs; whnf) <;> rfl)) ?_
    refine OW.qn rfl rfl (yq_not rfl (by (conv => lhs; whnf) <;> rfl)) (Iff.refl (oa = true)) (fun b57 hb57 => ?_)
    refine OW.q rfl rfl (yq_move rfl (by (conv => lhs; whnf) <;> rfl)) ?_
    apply OW.segOr 3 [59, 60] 61 hb57
    · intro hb57e
      refine QW.q (by subst hb57e; rfl) rfl (yq_move rfl (by (conv => lhs; whnf) <;> rfl)) ?_
      refine QW.qn (by subst hb57e; rfl) rfl (yq_not rfl (by (conv => lhs; whnf) <;> rfl)) (Iff.refl (ob = true)) (fun b60 hb60 => ?_)
      refine QW.q rfl rfl (yq_pick rfl (by (conv => lhs; whnf) <;> rfl) (by subst hb57e; ((conv => lhs; whnf) <;> rfl))) ?_
      exact QW.nil (SegM.mk (any_c (any_c any_n)) (or_run hb57 hb57e hb60))
    · intro hb57e
      refine QW.skip (by subst hb57e; rfl) rfl ?_
      refine QW.skip (by subst hb57e; rfl) rfl ?_
      refine QW.q rfl rfl (yq_pick rfl (by (conv => lhs; whnf) <;> rfl) (by subst hb57e; ((conv => lhs; whnf) <;> rfl))) ?_
      exact QW.nil (SegM.mk (any_c (any_c any_n)) (or_skip hb57 hb57e))
    · intro ρ61 b61 hA hb61
      obtain ⟨x59, x60, rfl⟩ := hA
      refine OW.q rfl rfl (yq_move rfl (by (conv => lhs; whnf) <;> rfl)) ?_
      apply OW.segOr 3 [63, 64] 65 hb61
      · intro hb61e
        refine QW.q (by subst hb61e; rfl) rfl (yq_move rfl (by (conv => lhs; whnf) <;> rfl)) ?_
        refine QW.qn (by subst hb61e; rfl) rfl (yq_not rfl (by (conv => lhs; whnf) <;> rfl)) (Iff.refl (oc = true)) (fun b64 hb64 => ?_)
        refine QW.q rfl rfl (yq_pick rfl (by (conv => lhs; whnf) <;> rfl) (by subst hb61e; ((conv => lhs; whnf) <;> rfl))) ?_
        exact QW.nil (SegM.mk (any_c (any_c any_n)) (or_run hb61 hb61e hb64))
      · intro hb61e
        refine QW.skip (by subst hb61e; rfl) rfl ?_
        refine QW.skip (by subst hb61e; rfl) rfl ?_
        refine QW.q rfl rfl (yq_pick rfl (by (conv => lhs; whnf) <;> rfl) (by subst hb61e; ((conv => lhs; whnf) <;> rfl))) ?_
        exact QW.nil (SegM.mk (any_c (any_c any_n)) (or_skip hb61 hb61e))
      · intro ρ65 b65 hA hb65
        obtain ⟨x63, x64, rfl⟩ := hA
        refine OW.q rfl rfl (yq_move rfl (by (conv => lhs; whnf) <;> rfl)) ?_
        apply OW.segOr 3 [67, 68] 69 hb65
        · intro hb65e
          refine QW.q (by subst hb65e; rfl) rfl (yq_move rfl (by (conv => lhs; whnf) <;> rfl)) ?_
          refine QW.qn (by subst hb65e; rfl) rfl (yq_not rfl (by (conv => lhs; whnf) <;> rfl)) (Iff.refl (od = true)) (fun b68 hb68 => ?_)
          refine QW.q rfl rfl (yq_pick rfl (by (conv => lhs; whnf) <;> rfl) (by subst hb65e; ((conv => lhs; whnf) <;> rfl))) ?_
          exact QW.nil (SegM.mk (any_c (any_c any_n)) (or_run hb65 hb65e hb68))
        · intro hb65e
          refine QW.skip (by subst hb65e; rfl) rfl ?_
          refine QW.skip (by subst hb65e; rfl) rfl ?_
          refine QW.q rfl rfl (yq_pick rfl (by (conv => lhs; whnf) <;> rfl) (by subst hb65e; ((conv => lhs; whnf) <;> rfl))) ?_
          exact QW.nil (SegM.mk (any_c (any_c any_n)) (or_skip hb65 hb65e))
        · intro ρ69 b69 hA hb69
          obtain ⟨x67, x68, rfl⟩ := hA
          refine OW.q rfl rfl (yq_move rfl (by (conv => lhs; whnf) <;> rfl)) ?_
          apply OW.segOr 3 [71, 72] 73 hb69
          · intro hb69e
            refine QW.q (by subst hb69e; rfl) rfl (yq_move rfl (by (conv => lhs; whnf) <;> rfl)) ?_
            refine QW.qn (by subst hb69e; rfl) rfl (yq_not rfl (by (conv => lhs; whnf) <;> rfl)) (Iff.refl (oe = true)) (fun b72 hb72 => ?_)
            refine QW.q rfl rfl (yq_pick rfl (by (conv => lhs; whnf) <;> rfl) (by subst hb69e; ((conv => lhs; whnf) <;> rfl))) ?_
            exact QW.nil (SegM.mk (any_c (any_c any_n)) (or_run hb69 hb69e hb72))
          · intro hb69e
            refine QW.skip (by subst hb69e; rfl) rfl ?_
            refine QW.skip (by subst hb69e; rfl) rfl ?_
            refine QW.q rfl rfl (yq_pick rfl (by (conv => lhs; whnf) <;> rfl) (by subst hb69e; ((conv => lhs; whnf) <;> rfl))) ?_
            exact QW.nil (SegM.mk (any_c (any_c any_n)) (or_skip hb69 hb69e))
          · intro ρ73 b73 hA hb73
            obtain ⟨x71, x72, rfl⟩ := hA
            refine OW.q rfl rfl (yq_move rfl (by (conv => lhs; whnf) <;> rfl)) ?_
            apply OW.segOr 3 [75, 76] 77 hb73
            · intro hb73e
              refine QW.q (by subst hb73e; rfl) rfl (yq_move rfl (by (conv => lhs; whnf) <;> rfl)) ?_
              refine QW.qb (by subst hb73e; rfl) rfl (yq_neq_bs (a := r5) (b := []) rfl (by (conv => lhs; whnf) <;> rfl) (by (conv => lhs; whnf) <;> rfl)) (fun b76 hb76 => ?_)
              refine QW.q rfl rfl (yq_pick rfl (by (conv => lhs; whnf) <;> rfl) (by subst hb73e; ((conv => lhs; whnf) <;> rfl))) ?_
              exact QW.nil (SegM.mk (any_c (any_c any_n)) (or_run hb73 hb73e hb76))
            · intro hb73e
              refine QW.skip (by subst hb73e; rfl) rfl ?_
              refine QW.skip (by subst hb73e; rfl) rfl ?_
              refine QW.q rfl rfl (yq_pick rfl (by (conv => lhs; whnf) <;> rfl) (by subst hb73e; ((conv => lhs; whnf) <;> rfl))) ?_
              exact QW.nil (SegM.mk (any_c (any_c any_n)) (or_skip hb73 hb73e))
            · intro ρ77 b77 hA hb77
              obtain ⟨x75, x76, rfl⟩ := hA
              refine OW.q rfl rfl (yq_move rfl (by (conv => lhs; whnf) <;> rfl)) ?_
              apply OW.segOr 4 [79, 80, 81] 82 hb77
              · intro hb77e
                refine QW.q (by subst hb77e; rfl) rfl (yq_loadW (cs := sgC (Sg.mk (small nn) hh (small ii) ss pp) (rowV a5 pp.length cp5)) rfl (by (conv => lhs; whnf) <;> rfl) (by rw [sgC_length]; exact ti46) (by repeat' first | exact List.mem_cons_self .. | apply List.mem_cons_of_mem)) ?_
                refine QW.qb (by subst hb77e; rfl) rfl (yq_call rfl rfl (.cons (by (conv => lhs; whnf) <;> rfl) .nil) en70 (fun w hw => valid_calls (Sg.mk (small nn) hh (small ii) ss pp) _ w (HsAt.row (a := a5) (cap := cp5) rfl (hw.own (.row a5 cp5 pp.length 25 32 (pp.flatMap hc)) (by repeat' first | exact List.mem_cons_self .. | apply List.mem_cons_of_mem))))) (fun b80 hb80 => ?_)
                refine QW.qn (by subst hb77e; rfl) rfl (yq_not rfl (by (conv => lhs; whnf) <;> rfl)) hb80 (fun b81 hb81 => ?_)
                refine QW.q rfl rfl (yq_pick rfl (by (conv => lhs; whnf) <;> rfl) (by subst hb77e; ((conv => lhs; whnf) <;> rfl))) ?_
                exact QW.nil (SegM.mk (any_c (any_c (any_c any_n))) (or_run hb77 hb77e hb81))
              · intro hb77e
                refine QW.skip (by subst hb77e; rfl) rfl ?_
                refine QW.skip (by subst hb77e; rfl) rfl ?_
                refine QW.skip (by subst hb77e; rfl) rfl ?_
                refine QW.q rfl rfl (yq_pick rfl (by (conv => lhs; whnf) <;> rfl) (by subst hb77e; ((conv => lhs; whnf) <;> rfl))) ?_
                exact QW.nil (SegM.mk (any_c (any_c (any_c any_n))) (or_skip hb77 hb77e))
              · intro ρ82 b82 hA hb82
                obtain ⟨x79, x80, x81, rfl⟩ := hA
                refine OW.nil ?_
                refine hK8 _ _ ?_
                refine CW.condq (by (conv => lhs; whnf) <;> rfl) hb82 (fun hc0 => ?_) (fun hc0 => ?_)
                · have hno : getS t = none := by
                    rw [getS_F, hF]
                    refine if_neg fun hx => ?_
                    obtain ⟨⟨⟨⟨⟨⟨x1, x2⟩, x3⟩, x4⟩, x5⟩, x6⟩, x7⟩ := hx
                    rcases hc0 with (((((h | h) | h) | h) | h) | h) | h
                    all_goals first | exact h x1 | exact h x2 | exact h x3 | exact h x4 | exact h x5 | exact h x6 | exact h x7 | omega
                  clear hc0
                  refine CW.seq_k fun K9 hK9 => ?_
                  refine CW.nilrow 25 32 ?_
                  refine CW.region ?_
                  refine OW.q rfl rfl (yq_build (parts := []) (pv := []) (cs := sgC Sg.none (.slice none 0 0)) rfl rfl built46e) ?_
                  refine OW.store' rfl rfl rfl (by (conv => lhs; whnf) <;> rfl) (by (conv => lhs; whnf) <;> rfl) (vs := sgC Sg.none (.slice none 0 0)) (by rw [sgC_length]; exact ti46) rfl (sgC_one rfl) (by repeat' first | exact Put.head | apply Put.tail) (cs' := sgC Sg.none (.slice none 0 0)) (spl_eqlen (by first | (simp only [sgC_length]; done) | (simp only [sgC_length]; rfl))) (by simp only [sgC_length]; exact Nat.le_of_ble_eq_true rfl) ?_
                  refine OW.q rfl rfl (yq_assign rfl (by (conv => lhs; whnf) <;> rfl)) ?_
                  refine OW.nil ?_
                  refine hK9 _ _ ?_
                  refine CW.ret ?_
                  refine then_ret ?_
                  -- ret (ret)
                  rw [(getR_none hno).1, (getR_none hno).2]
                  exact fin2 (Or.inr rfl) rfl (rv_agg (vs := sgC Sg.none (.slice none 0 0)) (by decide) (by (conv => lhs; whnf) <;> rfl) (by rw [sgC_length]; exact ti46) (by repeat' first | exact List.mem_cons_self .. | apply List.mem_cons_of_mem)) ⟨by decide, (by (conv => lhs; whnf) <;> rfl)⟩ (fun w hw => ⟨_, [.row none 0 0 25 32 []], rfl, hw.sub (by repeat' first | exact List.Sublist.refl _ | exact List.nil_sublist _ | apply List.Sublist.cons_cons | apply List.Sublist.cons), SgV Sg.none (.slice none 0 0), rfl, (.slice none 0 0), rfl, _, _, rfl, rfl⟩)
                · have hyes : getS t = some (Sg.mk (small nn) hh (small ii) ss pp) := by
                    rw [getS_F, hF]
                    refine if_pos ?_
                    simp only [not_or, ne_eq, Decidable.not_not] at hc0
                    exact hc0
                  clear hc0
                  refine CW.skip ?_
                  refine hK7 _ _ ?_
                  refine CW.seq_k fun K10 hK10 => ?_
                  refine CW.region ?_
                  refine OW.q rfl rfl (yq_loadW (cs := sgC (Sg.mk (small nn) hh (small ii) ss pp) (rowV a5 pp.length cp5)) rfl (by (conv => lhs; whnf) <;> rfl) (by rw [sgC_length]; exact ti46) (by repeat' first | exact List.mem_cons_self .. | apply List.mem_cons_of_mem)) ?_
                  refine OW.store' rfl rfl rfl (by (conv => lhs; whnf) <;> rfl) (by (conv => lhs; whnf) <;> rfl) (vs := sgC (Sg.mk (small nn) hh (small ii) ss pp) (rowV a5 pp.length cp5)) (by rw [sgC_length]; exact ti46) rfl (sgC_one rfl) (by repeat' first | exact Put.head | apply Put.tail) (cs' := sgC (Sg.mk (small nn) hh (small ii) ss pp) (rowV a5 pp.length cp5)) (spl_eqlen (by first | (simp only [sgC_length]; done) | (simp only [sgC_length]; rfl))) (by simp only [sgC_length]; exact Nat.le_of_ble_eq_true rfl) ?_
                  refine OW.q rfl rfl (yq_assign rfl (by (conv => lhs; whnf) <;> rfl)) ?_
                  refine OW.nil ?_
                  refine hK10 _ _ ?_
                  refine CW.ret ?_
                  -- ret (ret)
                  rw [(getR_some hyes).1, (getR_some hyes).2]
                  exact fin2 (Or.inr rfl) rfl (rv_agg (vs := sgC (Sg.mk (small nn) hh (small ii) ss pp) (rowV a5 pp.length cp5)) (by decide) (by (conv => lhs; whnf) <;> rfl) (by rw [sgC_length]; exact ti46) (by repeat' first | exact List.mem_cons_self .. | apply List.mem_cons_of_mem)) ⟨by decide, (by (conv => lhs; whnf) <;> rfl)⟩ (fun w hw => ⟨_, [.row a5 cp5 pp.length 25 32 (pp.flatMap hc)], rfl, hw.sub (by repeat' first | exact List.Sublist.refl _ | exact List.nil_sublist _ | apply List.Sublist.cons_cons | apply List.Sublist.cons), SgV (Sg.mk (small nn) hh (small ii) ss pp) (rowV a5 pp.length cp5), rfl, (rowV a5 pp.length cp5), rfl, _, _, rfl, rfl⟩)
set_option maxRecDepth 100000 in
set_option maxHeartbeats 1000000 in
theorem refget2_calls (t : Bytes) (w : World) (ht : t.length ≤ 4294967296) :
    Calls Tryd.prog 67 #[.string (bs t)] w fun e w' => ∃ v L1, e = .returned v ∧ Cl w [] L1 w' ∧ ∃ u, v = .tuple #[u, .int .i64 (getI t)] ∧ OutSg u L1 (getR t) := by
  obtain ⟨⟨nn, r1, oa⟩, h1⟩ : ∃ x, readF t = x := ⟨_, rfl⟩
  obtain ⟨⟨hh, r2, ob⟩, h2⟩ : ∃ x, unhashF r1 = x := ⟨_, rfl⟩
  obtain ⟨⟨ii, r3, oc⟩, h3⟩ : ∃ x, readF r2 = x := ⟨_, rfl⟩
  obtain ⟨⟨ss, r4, od⟩, h4⟩ : ∃ x, cutF r3 = x := ⟨_, rfl⟩
  obtain ⟨⟨pp, r5, oe⟩, h5⟩ : ∃ x, unhashesF r4 = x := ⟨_, rfl⟩
  have hF : fldsF t = ⟨nn, oa, hh, ob, ii, oc, ss, od, pp, oe, r5⟩ := by unfold fldsF; simp only [h1, h2, h3, h4, h5]
  have q1 := readF_len t
  have q2 := unhashF_len r1
  have q3 := readF_len r2
  have q4 := cutF_len r3
  have q5 := unhashesF_len r4
  have n1 := readF_lt t
  have n3 := readF_lt r2
  rw [h1] at q1 n1
  rw [h2] at q2
  rw [h3] at q3 n3
  rw [h4] at q4
  rw [h5] at q5
  simp only at q1 q2 q3 q4 q5 n1 n3
  have hnu := u64_nat n1
  have hiu := u64_nat n3
  have c1 : ∀ w, Calls Tryd.prog 135 #[.string (bs t)] w fun e w' => e = .returned (.tuple #[U64 (UInt64.ofNat nn), .string (bs r1), .bool oa]) ∧ Cl w [] [] w' := fun w => by
    have := refread_calls t w (by omega); unfold readV at this; rwa [h1] at this
  have c2 : ∀ w, Calls Tryd.prog 129 #[.string (bs r1)] w fun e w' => e = .returned (.tuple #[HV hh, .string (bs r2), .bool ob]) ∧ Cl w [] [] w' := fun w => by
    have := refunhash_calls r1 w (by omega); rw [unhashV_F] at this; rwa [h2] at this
  have c3 : ∀ w, Calls Tryd.prog 135 #[.string (bs r2)] w fun e w' => e = .returned (.tuple #[U64 (UInt64.ofNat ii), .string (bs r3), .bool oc]) ∧ Cl w [] [] w' := fun w => by
    have := refread_calls r2 w (by omega); unfold readV at this; rwa [h3] at this
  have c4 : ∀ w, Calls Tryd.prog 136 #[.string (bs r3)] w fun e w' => e = .returned (.tuple #[.string (bs ss), .string (bs r4), .bool od]) ∧ Cl w [] [] w' := fun w => by
    have := refcut_calls r3 w (by omega); unfold cutV at this; rwa [h4] at this
  have c5 : ∀ w, Calls Tryd.prog 137 #[.string (bs r4)] w fun e w' => ∃ v L1, e = .returned v ∧ Cl w [] L1 w' ∧ ∃ u, v = .tuple #[u, .string (bs r5), .bool oe] ∧ OutHs u L1 pp := fun w => by
    have := refunhashes_calls r4 w (by omega); rwa [h5] at this
  refine calls_of_CW (L := []) Tryd.func67 rfl (Nat.le_of_ble_eq_true rfl) (Cl.refl _) ?_
  refine CW.seq_k fun K1 hK1 => ?_
  refine CW.region ?_
  refine OW.alloc rfl rfl rfl tz46 (fun b2 => ?_)
  refine OW.q rfl rfl (yq_assign rfl (by (conv => lhs; whnf) <;> rfl)) ?_
  refine OW.nil ?_
  refine hK1 _ _ ?_
  refine CW.seq_k fun K2 hK2 => ?_
  refine CW.region ?_
  refine OW.q rfl rfl (yq_move rfl (by (conv => lhs; whnf) <;> rfl)) ?_
  refine OW.q rfl rfl (yq_call rfl rfl (.cons (by (conv => lhs; whnf) <;> rfl) .nil) en135 (fun w hw => c1 w)) ?_
  refine OW.q rfl rfl (yq_move rfl (by (conv => lhs; whnf) <;> rfl)) ?_
  refine OW.q rfl rfl (yq_extract rfl (by (conv => lhs; whnf) <;> rfl) rfl) ?_
  refine OW.q rfl rfl (yq_extract rfl (by (conv => lhs; whnf) <;> rfl) rfl) ?_
  refine OW.q rfl rfl (yq_extract rfl (by (conv => lhs; whnf) <;> rfl) rfl) ?_
  refine OW.q rfl rfl (yq_assign rfl (by (conv => lhs; whnf) <;> rfl)) ?_
  refine OW.q rfl rfl (yq_assign rfl (by (conv => lhs; whnf) <;> rfl)) ?_
  refine OW.q rfl rfl (yq_assign rfl (by (conv => lhs; whnf) <;> rfl)) ?_
  refine OW.nil ?_
  refine hK2 _ _ ?_
  refine CW.seq_k fun K3 hK3 => ?_
  refine CW.region ?_
  refine OW.q rfl rfl (yq_move rfl (by (conv => lhs; whnf) <;> rfl)) ?_
  refine OW.q rfl rfl (yq_call rfl rfl (.cons (by (conv => lhs; whnf) <;> rfl) .nil) en129 (fun w hw => c2 w)) ?_
  refine OW.q rfl rfl (yq_move rfl (by (conv => lhs; whnf) <;> rfl)) ?_
  refine OW.q rfl rfl (yq_extract rfl (by (conv => lhs; whnf) <;> rfl) rfl) ?_
  refine OW.q rfl rfl (yq_extract rfl (by (conv => lhs; whnf) <;> rfl) rfl) ?_
  refine OW.q rfl rfl (yq_extract rfl (by (conv => lhs; whnf) <;> rfl) rfl) ?_
  refine OW.alloc rfl rfl rfl tz25 (fun b7 => ?_)
  refine OW.storeH rfl rfl rfl (by (conv => lhs; whnf) <;> rfl) (by (conv => lhs; whnf) <;> rfl) ti25 (by repeat' first | exact Put.head | apply Put.tail) (hc_length _) ?_
  refine OW.q rfl rfl (yq_assign rfl (by (conv => lhs; whnf) <;> rfl)) ?_
  refine OW.q rfl rfl (yq_assign rfl (by (conv => lhs; whnf) <;> rfl)) ?_
  refine OW.nil ?_
  refine hK3 _ _ ?_
  refine CW.seq_k fun K4 hK4 => ?_
  refine CW.region ?_
  refine OW.q rfl rfl (yq_move rfl (by (conv => lhs; whnf) <;> rfl)) ?_
  refine OW.q rfl rfl (yq_call rfl rfl (.cons (by (conv => lhs; whnf) <;> rfl) .nil) en135 (fun w hw => c3 w)) ?_
  refine OW.q rfl rfl (yq_move rfl (by (conv => lhs; whnf) <;> rfl)) ?_
  refine OW.q rfl rfl (yq_extract rfl (by (conv => lhs; whnf) <;> rfl) rfl) ?_
  refine OW.q rfl rfl (yq_extract rfl (by (conv => lhs; whnf) <;> rfl) rfl) ?_
  refine OW.q rfl rfl (yq_extract rfl (by (conv => lhs; whnf) <;> rfl) rfl) ?_
  refine OW.q rfl rfl (yq_assign rfl (by (conv => lhs; whnf) <;> rfl)) ?_
  refine OW.q rfl rfl (yq_assign rfl (by (conv => lhs; whnf) <;> rfl)) ?_
  refine OW.q rfl rfl (yq_assign rfl (by (conv => lhs; whnf) <;> rfl)) ?_
  refine OW.nil ?_
  refine hK4 _ _ ?_
  refine CW.seq_k fun K5 hK5 => ?_
  refine CW.region ?_
  refine OW.q rfl rfl (yq_move rfl (by (conv => lhs; whnf) <;> rfl)) ?_
  refine OW.q rfl rfl (yq_call rfl rfl (.cons (by (conv => lhs; whnf) <;> rfl) .nil) en136 (fun w hw => c4 w)) ?_
  refine OW.q rfl rfl (yq_move rfl (by (conv => lhs; whnf) <;> rfl)) ?_
  refine OW.q rfl rfl (yq_extract rfl (by (conv => lhs; whnf) <;> rfl) rfl) ?_
  refine OW.q rfl rfl (yq_extract rfl (by (conv => lhs; whnf) <;> rfl) rfl) ?_
  refine OW.q rfl rfl (yq_extract rfl (by (conv => lhs; whnf) <;> rfl) rfl) ?_
  refine OW.q rfl rfl (yq_assign rfl (by (conv => lhs; whnf) <;> rfl)) ?_
  refine OW.q rfl rfl (yq_assign rfl (by (conv => lhs; whnf) <;> rfl)) ?_
  refine OW.q rfl rfl (yq_assign rfl (by (conv => lhs; whnf) <;> rfl)) ?_
  refine OW.nil ?_
  refine hK5 _ _ ?_
  refine CW.seq_k fun K6 hK6 => ?_
  refine CW.region ?_
  refine OW.q rfl rfl (yq_move rfl (by (conv => lhs; whnf) <;> rfl)) ?_
  refine OW.calln rfl rfl rfl (by (conv => lhs; whnf) <;> rfl) (.cons (by (conv => lhs; whnf) <;> rfl) .nil) en137 (fun w hw => c5 w) ?_
  rintro _ _ ⟨u, rfl, a5, cp5, rfl, rfl⟩
  refine OW.q rfl rfl (yq_move rfl (by (conv => lhs; whnf) <;> rfl)) ?_
  refine OW.q rfl rfl (yq_extract rfl (by (conv => lhs; whnf) <;> rfl) rfl) ?_
  refine OW.q rfl rfl (yq_extract rfl (by (conv => lhs; whnf) <;> rfl) rfl) ?_
  refine OW.q rfl rfl (yq_extract rfl (by (conv => lhs; whnf) <;> rfl) rfl) ?_
  refine OW.q rfl rfl (yq_assign rfl (by (conv => lhs; whnf) <;> rfl)) ?_
  refine OW.q rfl rfl (yq_assign rfl (by (conv => lhs; whnf) <;> rfl)) ?_
  refine OW.q rfl rfl (yq_assign rfl (by (conv => lhs; whnf) <;> rfl)) ?_
  refine OW.nil ?_
  refine hK6 _ _ ?_
  refine CW.seq_k fun K7 hK7 => ?_
  refine CW.seq_k fun K8 hK8 => ?_
  refine CW.region ?_
  refine OW.q rfl rfl (yq_move rfl (by (conv => lhs; whnf) <;> rfl)) ?_
  refine OW.qn rfl rfl (yq_not rfl (by (conv => lhs; whnf) <;> rfl)) (Iff.refl (oa = true)) (fun b50 hb50 => ?_)
  refine OW.q rfl rfl (yq_move rfl (by (conv => lhs; whnf) <;> rfl)) ?_
  apply OW.segOr 3 [52, 53] 54 hb50
  · intro hb50e
    refine QW.q (by subst hb50e; rfl) rfl (yq_move rfl (by (conv => lhs; whnf) <;> rfl)) ?_
    refine QW.qn (by subst hb50e; rfl) rfl (yq_not rfl (by (conv => lhs; whnf) <;> rfl)) (Iff.refl (ob = true)) (fun b53 hb53 => ?_)
    refine QW.q rfl rfl (yq_pick rfl (by (conv => lhs; whnf) <;> rfl) (by subst hb50e; ((conv => lhs; whnf) <;> rfl))) ?_
    exact QW.nil (SegM.mk (any_c (any_c any_n)) (or_run hb50 hb50e hb53))
  · intro hb50e
    refine QW.skip (by subst hb50e; rfl) rfl ?_
    refine QW.skip (by subst hb50e; rfl) rfl ?_
    refine QW.q rfl rfl (yq_pick rfl (by (conv => lhs; whnf) <;> rfl) (by subst hb50e; ((conv => lhs; whnf) <;> rfl))) ?_
    exact QW.nil (SegM.mk (any_c (any_c any_n)) (or_skip hb50 hb50e))
  · intro ρ54 b54 hA hb54
    obtain ⟨x52, x53, rfl⟩ := hA
    refine OW.q rfl rfl (yq_move rfl (by (conv => lhs; whnf) <;> rfl)) ?_
    apply OW.segOr 3 [56, 57] 58 hb54
    · intro hb54e
      refine QW.q (by subst hb54e; rfl) rfl (yq_move rfl (by (conv => lhs; whnf) <;> rfl)) ?_
      refine QW.qn (by subst hb54e; rfl) rfl (yq_not rfl (by (conv => lhs; whnf) <;> rfl)) (Iff.refl (oc = true)) (fun b57 hb57 => ?_)
      refine QW.q rfl rfl (yq_pick rfl (by (conv => lhs; whnf) <;> rfl) (by subst hb54e; ((conv => lhs; whnf) <;> rfl))) ?_
      exact QW.nil (SegM.mk (any_c (any_c any_n)) (or_run hb54 hb54e hb57))
    · intro hb54e
      refine QW.skip (by subst hb54e; rfl) rfl ?_
      refine QW.skip (by subst hb54e; rfl) rfl ?_
      refine QW.q rfl rfl (yq_pick rfl (by (conv => lhs; whnf) <;> rfl) (by subst hb54e; ((conv => lhs; whnf) <;> rfl))) ?_
      exact QW.nil (SegM.mk (any_c (any_c any_n)) (or_skip hb54 hb54e))
    · intro ρ58 b58 hA hb58
      obtain ⟨x56, x57, rfl⟩ := hA
      refine OW.q rfl rfl (yq_move rfl (by (conv => lhs; whnf) <;> rfl)) ?_
      apply OW.segOr 3 [60, 61] 62 hb58
      · intro hb58e
        refine QW.q (by subst hb58e; rfl) rfl (yq_move rfl (by (conv => lhs; whnf) <;> rfl)) ?_
        refine QW.qn (by subst hb58e; rfl) rfl (yq_not rfl (by (conv => lhs; whnf) <;> rfl)) (Iff.refl (od = true)) (fun b61 hb61 => ?_)
        refine QW.q rfl rfl (yq_pick rfl (by (conv => lhs; whnf) <;> rfl) (by subst hb58e; ((conv => lhs; whnf) <;> rfl))) ?_
        exact QW.nil (SegM.mk (any_c (any_c any_n)) (or_run hb58 hb58e hb61))
      · intro hb58e
        refine QW.skip (by subst hb58e; rfl) rfl ?_
        refine QW.skip (by subst hb58e; rfl) rfl ?_
        refine QW.q rfl rfl (yq_pick rfl (by (conv => lhs; whnf) <;> rfl) (by subst hb58e; ((conv => lhs; whnf) <;> rfl))) ?_
        exact QW.nil (SegM.mk (any_c (any_c any_n)) (or_skip hb58 hb58e))
      · intro ρ62 b62 hA hb62
        obtain ⟨x60, x61, rfl⟩ := hA
        refine OW.q rfl rfl (yq_move rfl (by (conv => lhs; whnf) <;> rfl)) ?_
        apply OW.segOr 3 [64, 65] 66 hb62
        · intro hb62e
          refine QW.q (by subst hb62e; rfl) rfl (yq_move rfl (by (conv => lhs; whnf) <;> rfl)) ?_
          refine QW.qn (by subst hb62e; rfl) rfl (yq_not rfl (by (conv => lhs; whnf) <;> rfl)) (Iff.refl (oe = true)) (fun b65 hb65 => ?_)
          refine QW.q rfl rfl (yq_pick rfl (by (conv => lhs; whnf) <;> rfl) (by subst hb62e; ((conv => lhs; whnf) <;> rfl))) ?_
          exact QW.nil (SegM.mk (any_c (any_c any_n)) (or_run hb62 hb62e hb65))
        · intro hb62e
          refine QW.skip (by subst hb62e; rfl) rfl ?_
          refine QW.skip (by subst hb62e; rfl) rfl ?_
          refine QW.q rfl rfl (yq_pick rfl (by (conv => lhs; whnf) <;> rfl) (by subst hb62e; ((conv => lhs; whnf) <;> rfl))) ?_
          exact QW.nil (SegM.mk (any_c (any_c any_n)) (or_skip hb62 hb62e))
        · intro ρ66 b66 hA hb66
          obtain ⟨x64, x65, rfl⟩ := hA
          refine OW.q rfl rfl (yq_move rfl (by (conv => lhs; whnf) <;> rfl)) ?_
          apply OW.segOr 3 [68, 69] 70 hb66
          · intro hb66e
            refine QW.q (by subst hb66e; rfl) rfl (yq_move rfl (by (conv => lhs; whnf) <;> rfl)) ?_
            refine QW.qb (by subst hb66e; rfl) rfl (yq_gtr rfl (by (conv => lhs; whnf) <;> rfl) (by (conv => lhs; whnf) <;> rfl)) (fun b69 hb69 => ?_)
            refine QW.q rfl rfl (yq_pick rfl (by (conv => lhs; whnf) <;> rfl) (by subst hb66e; ((conv => lhs; whnf) <;> rfl))) ?_
            exact QW.nil (SegM.mk (any_c (any_c any_n)) (or_run hb66 hb66e hb69))
          · intro hb66e
            refine QW.skip (by subst hb66e; rfl) rfl ?_
            refine QW.skip (by subst hb66e; rfl) rfl ?_
            refine QW.q rfl rfl (yq_pick rfl (by (conv => lhs; whnf) <;> rfl) (by subst hb66e; ((conv => lhs; whnf) <;> rfl))) ?_
            exact QW.nil (SegM.mk (any_c (any_c any_n)) (or_skip hb66 hb66e))
          · intro ρ70 b70 hA hb70
            obtain ⟨x68, x69, rfl⟩ := hA
            refine OW.q rfl rfl (yq_move rfl (by (conv => lhs; whnf) <;> rfl)) ?_
            apply OW.segOr 3 [72, 73] 74 hb70
            · intro hb70e
              refine QW.q (by subst hb70e; rfl) rfl (yq_move rfl (by (conv => lhs; whnf) <;> rfl)) ?_
              refine QW.qb (by subst hb70e; rfl) rfl (yq_gtr rfl (by (conv => lhs; whnf) <;> rfl) (by (conv => lhs; whnf) <;> rfl)) (fun b73 hb73 => ?_)
              refine QW.q rfl rfl (yq_pick rfl (by (conv => lhs; whnf) <;> rfl) (by subst hb70e; ((conv => lhs; whnf) <;> rfl))) ?_
              exact QW.nil (SegM.mk (any_c (any_c any_n)) (or_run hb70 hb70e hb73))
            · intro hb70e
              refine QW.skip (by subst hb70e; rfl) rfl ?_
              refine QW.skip (by subst hb70e; rfl) rfl ?_
              refine QW.q rfl rfl (yq_pick rfl (by (conv => lhs; whnf) <;> rfl) (by subst hb70e; ((conv => lhs; whnf) <;> rfl))) ?_
              exact QW.nil (SegM.mk (any_c (any_c any_n)) (or_skip hb70 hb70e))
            · intro ρ74 b74 hA hb74
              obtain ⟨x72, x73, rfl⟩ := hA
              refine OW.nil ?_
              refine hK8 _ _ ?_
              refine CW.condq (by (conv => lhs; whnf) <;> rfl) hb74 (fun hc0 => ?_) (fun hc0 => ?_)
              · have hno : getS t = none := by
                  rw [getS_R, hF]
                  refine if_neg fun hx => ?_
                  obtain ⟨⟨⟨⟨⟨⟨x1, x2⟩, x3⟩, x4⟩, x5⟩, x6, x7⟩, x8, x9⟩ := hx
                  simp only at x6 x7
                  rcases hc0 with (((((h | h) | h) | h) | h) | h) | h
                  all_goals first | exact h x1 | exact h x2 | exact h x3 | exact h x4 | exact h x5 | exact h x6 | exact h x7 | omega
                clear hc0
                refine CW.seq_k fun K9 hK9 => ?_
                refine CW.nilrow 25 32 ?_
                refine CW.region ?_
                refine OW.q rfl rfl (yq_build (parts := []) (pv := []) (cs := sgC Sg.none (.slice none 0 0)) rfl rfl built46e) ?_
                refine OW.store' rfl rfl rfl (by (conv => lhs; whnf) <;> rfl) (by (conv => lhs; whnf) <;> rfl) (vs := sgC Sg.none (.slice none 0 0)) (by rw [sgC_length]; exact ti46) rfl (sgC_one rfl) (by repeat' first | exact Put.head | apply Put.tail) (cs' := sgC Sg.none (.slice none 0 0)) (spl_eqlen (by first | (simp only [sgC_length]; done) | (simp only [sgC_length]; rfl))) (by simp only [sgC_length]; exact Nat.le_of_ble_eq_true rfl) ?_
                refine OW.q rfl rfl (yq_assign rfl (by (conv => lhs; whnf) <;> rfl)) ?_
                refine OW.nil ?_
                refine hK9 _ _ ?_
                refine CW.ret ?_
                refine then_ret ?_
                -- ret (ret)
                rw [(getR_none hno).1, (getR_none hno).2]
                exact fin2 (Or.inr rfl) rfl (rv_agg (vs := sgC Sg.none (.slice none 0 0)) (by decide) (by (conv => lhs; whnf) <;> rfl) (by rw [sgC_length]; exact ti46) (by repeat' first | exact List.mem_cons_self .. | apply List.mem_cons_of_mem)) ⟨by decide, (by (conv => lhs; whnf) <;> rfl)⟩ (fun w hw => ⟨_, [.row none 0 0 25 32 []], rfl, hw.sub (by repeat' first | exact List.Sublist.refl _ | exact List.nil_sublist _ | apply List.Sublist.cons_cons | apply List.Sublist.cons), SgV Sg.none (.slice none 0 0), rfl, (.slice none 0 0), rfl, _, _, rfl, rfl⟩)
              · simp only [not_or, ne_eq, Decidable.not_not] at hc0
                obtain ⟨⟨⟨⟨⟨⟨y1, y2⟩, y3⟩, y4⟩, y5⟩, y6⟩, y7⟩ := hc0
                have z6 : nn ≤ 4096 := by omega
                have z7 : ii ≤ 7 := by omega
                refine CW.skip ?_
                refine hK7 _ _ ?_
                refine CW.seq_k fun K10 hK10 => ?_
                refine CW.region ?_
                refine OW.q rfl rfl (yq_move rfl (by (conv => lhs; whnf) <;> rfl)) ?_
                refine OW.q rfl rfl ((yq_conv_u64_i64 rfl Tryd.underlying147 Tryd.underlying3 (by (conv => lhs; whnf) <;> rfl) (by omega)).to (v' := .int .i64 (nn : Int)) (by rw [hnu])) ?_
                refine OW.q rfl rfl ((yq_loadH (v := hh) rfl (by (conv => lhs; whnf) <;> rfl) ti25 (by repeat' first | exact List.mem_cons_self .. | apply List.mem_cons_of_mem))) ?_
                refine OW.q rfl rfl ((yq_build (cs := headC (nn : Int) hh) rfl rfl (built33 _ _))) ?_
                refine OW.q rfl rfl (yq_move rfl (by (conv => lhs; whnf) <;> rfl)) ?_
                refine OW.q rfl rfl ((yq_conv_u64_i64 rfl Tryd.underlying147 Tryd.underlying3 (by (conv => lhs; whnf) <;> rfl) (by omega)).to (v' := .int .i64 (ii : Int)) (by rw [hiu])) ?_
                refine OW.q rfl rfl (yq_move rfl (by (conv => lhs; whnf) <;> rfl)) ?_
                refine OW.q rfl rfl (yq_move rfl (by (conv => lhs; whnf) <;> rfl)) ?_
                refine OW.q rfl rfl ((yq_build (cs := sealC (Sg.mk (nn : Int) hh (ii : Int) ss pp) (rowV a5 pp.length cp5)) rfl rfl (by kernel_rfl))) ?_
                refine OW.q rfl rfl ((yq_build (cs := sgC (Sg.mk (nn : Int) hh (ii : Int) ss pp) (rowV a5 pp.length cp5)) rfl rfl (built46 (Sg.mk (nn : Int) hh (ii : Int) ss pp) (rowV a5 pp.length cp5)))) ?_
                refine OW.alloc rfl rfl rfl tz46 (fun b16 => ?_)
                refine OW.store' rfl rfl rfl (by (conv => lhs; whnf) <;> rfl) (by (conv => lhs; whnf) <;> rfl) (vs := sgC (Sg.mk (nn : Int) hh (ii : Int) ss pp) (rowV a5 pp.length cp5)) (by rw [sgC_length]; exact ti46) rfl (sgC_one rfl) (by repeat' first | exact Put.head | apply Put.tail) (cs' := sgC (Sg.mk (nn : Int) hh (ii : Int) ss pp) (rowV a5 pp.length cp5)) (spl_eqlen (by first | (simp only [sgC_length]; done) | (simp only [sgC_length]; rfl))) (by simp only [sgC_length]; exact Nat.le_of_ble_eq_true rfl) ?_
                refine OW.nil ?_
                refine hK10 _ _ ?_
                refine CW.seq_k fun K11 hK11 => ?_
                refine CW.region ?_
                refine OW.q rfl rfl (yq_loadW (cs := sgC (Sg.mk (nn : Int) hh (ii : Int) ss pp) (rowV a5 pp.length cp5)) rfl (by (conv => lhs; whnf) <;> rfl) (by rw [sgC_length]; exact ti46) (by repeat' first | exact List.mem_cons_self .. | apply List.mem_cons_of_mem)) ?_
                refine OW.q rfl rfl (yq_call rfl rfl (.cons (by (conv => lhs; whnf) <;> rfl) .nil) en64 (fun w hw => refput2_calls (Sg.mk (nn : Int) hh (ii : Int) ss pp) _ w (HsAt.row (a := a5) (cap := cp5) rfl (hw.own (.row a5 cp5 pp.length 25 32 (pp.flatMap hc)) (by repeat' first | exact List.mem_cons_self .. | apply List.mem_cons_of_mem))))) ?_
                refine OW.q rfl rfl (yq_move rfl (by (conv => lhs; whnf) <;> rfl)) ?_
                refine OW.q rfl rfl (yq_extract rfl (by (conv => lhs; whnf) <;> rfl) rfl) ?_
                refine OW.q rfl rfl (yq_extract rfl (by (conv => lhs; whnf) <;> rfl) rfl) ?_
                refine OW.q rfl rfl (yq_assign rfl (by (conv => lhs; whnf) <;> rfl)) ?_
                refine OW.q rfl rfl (yq_assign rfl (by (conv => lhs; whnf) <;> rfl)) ?_
                refine OW.nil ?_
                refine hK11 _ _ ?_
                refine CW.seq_k fun K12 hK12 => ?_
                refine CW.seq_k fun K13 hK13 => ?_
                refine CW.region ?_
                refine OW.q rfl rfl (yq_move rfl (by (conv => lhs; whnf) <;> rfl)) ?_
                refine OW.qb rfl rfl (yq_neq rfl (by (conv => lhs; whnf) <;> rfl) (by (conv => lhs; whnf) <;> rfl)) (fun b92 hb92 => ?_)
                refine OW.q rfl rfl (yq_move rfl (by (conv => lhs; whnf) <;> rfl)) ?_
                apply OW.segOr 4 [94, 95, 96] 97 hb92
                · intro hb92e
                  refine QW.q (by subst hb92e; rfl) rfl (yq_move rfl (by (conv => lhs; whnf) <;> rfl)) ?_
                  refine QW.q (by subst hb92e; rfl) rfl (yq_move rfl (by (conv => lhs; whnf) <;> rfl)) ?_
                  refine QW.qb (by subst hb92e; rfl) rfl (yq_neq_bs rfl (by (conv => lhs; whnf) <;> rfl) (by (conv => lhs; whnf) <;> rfl)) (fun b96 hb96 => ?_)
                  refine QW.q rfl rfl (yq_pick rfl (by (conv => lhs; whnf) <;> rfl) (by subst hb92e; ((conv => lhs; whnf) <;> rfl))) ?_
                  exact QW.nil (SegM.mk (any_c (any_c (any_c any_n))) (or_run hb92 hb92e hb96))
                · intro hb92e
                  refine QW.skip (by subst hb92e; rfl) rfl ?_
                  refine QW.skip (by subst hb92e; rfl) rfl ?_
                  refine QW.skip (by subst hb92e; rfl) rfl ?_
                  refine QW.q rfl rfl (yq_pick rfl (by (conv => lhs; whnf) <;> rfl) (by subst hb92e; ((conv => lhs; whnf) <;> rfl))) ?_
                  exact QW.nil (SegM.mk (any_c (any_c (any_c any_n))) (or_skip hb92 hb92e))
                · intro ρ97 b97 hA hb97
                  obtain ⟨x94, x95, x96, rfl⟩ := hA
                  refine OW.nil ?_
                  refine hK13 _ _ ?_
                  refine CW.condq (by (conv => lhs; whnf) <;> rfl) hb97 (fun hc1 => ?_) (fun hc1 => ?_)
                  · have hno : getS t = none := by
                      rw [getS_R, hF]
                      refine if_neg fun hx => ?_
                      obtain ⟨⟨⟨⟨⟨⟨x1, x2⟩, x3⟩, x4⟩, x5⟩, x6, x7⟩, x8, x9⟩ := hx
                      rcases hc1 with h | h
                      · exact h (putE_ok x8)
                      · exact h ((putR_ok x8).trans x9)
                    clear hc1
                    refine CW.seq_k fun K14 hK14 => ?_
                    refine CW.nilrow 25 32 ?_
                    refine CW.region ?_
                    refine OW.q rfl rfl (yq_build (parts := []) (pv := []) (cs := sgC Sg.none (.slice none 0 0)) rfl rfl built46e) ?_
                    refine OW.store' rfl rfl rfl (by (conv => lhs; whnf) <;> rfl) (by (conv => lhs; whnf) <;> rfl) (vs := sgC Sg.none (.slice none 0 0)) (by rw [sgC_length]; exact ti46) rfl (sgC_one rfl) (by repeat' first | exact Put.head | apply Put.tail) (cs' := sgC Sg.none (.slice none 0 0)) (spl_eqlen (by first | (simp only [sgC_length]; done) | (simp only [sgC_length]; rfl))) (by simp only [sgC_length]; exact Nat.le_of_ble_eq_true rfl) ?_
                    refine OW.q rfl rfl (yq_assign rfl (by (conv => lhs; whnf) <;> rfl)) ?_
                    refine OW.nil ?_
                    refine hK14 _ _ ?_
                    refine CW.ret ?_
                    refine then_ret ?_
                    -- ret (ret)
                    rw [(getR_none hno).1, (getR_none hno).2]
                    exact fin2 (Or.inr rfl) rfl (rv_agg (vs := sgC Sg.none (.slice none 0 0)) (by decide) (by (conv => lhs; whnf) <;> rfl) (by rw [sgC_length]; exact ti46) (by repeat' first | exact List.mem_cons_self .. | apply List.mem_cons_of_mem)) ⟨by decide, (by (conv => lhs; whnf) <;> rfl)⟩ (fun w hw => ⟨_, [.row none 0 0 25 32 []], rfl, hw.sub (by repeat' first | exact List.Sublist.refl _ | exact List.nil_sublist _ | apply List.Sublist.cons_cons | apply List.Sublist.cons), SgV Sg.none (.slice none 0 0), rfl, (.slice none 0 0), rfl, _, _, rfl, rfl⟩)
                  · simp only [not_or, ne_eq, Decidable.not_not] at hc1
                    obtain ⟨w1, w2⟩ := hc1
                    have w3 : Sg.valid (Sg.mk (nn : Int) hh (ii : Int) ss pp) := by
                      refine Decidable.byContradiction fun h => ?_
                      rw [putE_not h] at w1
                      omega
                    have hyes : getS t = some (Sg.mk (nn : Int) hh (ii : Int) ss pp) := by
                      rw [getS_R, hF]
                      exact if_pos ⟨⟨⟨⟨⟨⟨y1, y2⟩, y3⟩, y4⟩, y5⟩, z6, z7⟩, w3, (putR_ok w3).symm.trans w2⟩
                    refine CW.skip ?_
                    refine hK12 _ _ ?_
                    refine CW.seq_k fun K15 hK15 => ?_
                    refine CW.region ?_
                    refine OW.q rfl rfl (yq_loadW (cs := sgC (Sg.mk (nn : Int) hh (ii : Int) ss pp) (rowV a5 pp.length cp5)) rfl (by (conv => lhs; whnf) <;> rfl) (by rw [sgC_length]; exact ti46) (by repeat' first | exact List.mem_cons_self .. | apply List.mem_cons_of_mem)) ?_
                    refine OW.store' rfl rfl rfl (by (conv => lhs; whnf) <;> rfl) (by (conv => lhs; whnf) <;> rfl) (vs := sgC (Sg.mk (nn : Int) hh (ii : Int) ss pp) (rowV a5 pp.length cp5)) (by rw [sgC_length]; exact ti46) rfl (sgC_one rfl) (by repeat' first | exact Put.head | apply Put.tail) (cs' := sgC (Sg.mk (nn : Int) hh (ii : Int) ss pp) (rowV a5 pp.length cp5)) (spl_eqlen (by first | (simp only [sgC_length]; done) | (simp only [sgC_length]; rfl))) (by simp only [sgC_length]; exact Nat.le_of_ble_eq_true rfl) ?_
                    refine OW.q rfl rfl (yq_assign rfl (by (conv => lhs; whnf) <;> rfl)) ?_
                    refine OW.nil ?_
                    refine hK15 _ _ ?_
                    refine CW.ret ?_
                    -- ret (ret)
                    rw [(getR_some hyes).1, (getR_some hyes).2]
                    exact fin2 (Or.inr rfl) rfl (rv_agg (vs := sgC (Sg.mk (nn : Int) hh (ii : Int) ss pp) (rowV a5 pp.length cp5)) (by decide) (by (conv => lhs; whnf) <;> rfl) (by rw [sgC_length]; exact ti46) (by repeat' first | exact List.mem_cons_self .. | apply List.mem_cons_of_mem)) ⟨by decide, (by (conv => lhs; whnf) <;> rfl)⟩ (fun w hw => ⟨_, [.row a5 cp5 pp.length 25 32 (pp.flatMap hc)], rfl, hw.sub (by repeat' first | exact List.Sublist.refl _ | exact List.nil_sublist _ | apply List.Sublist.cons_cons | apply List.Sublist.cons), SgV (Sg.mk (nn : Int) hh (ii : Int) ss pp) (rowV a5 pp.length cp5), rfl, (rowV a5 pp.length cp5), rfl, _, _, rfl, rfl⟩)
end Go.Proofs.YtahdekllphehkaaDoor
