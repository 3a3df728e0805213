/- The reference, peers made, asked, compared; no statement of the seat is proved here. -/
import Derived.Test.YtahdekllphehkaaA7
set_option linter.unusedVariables false
set_option linter.unusedSimpArgs false
namespace Go.Proofs.Ytahdekllphehkaa
open Go.WL Go.Spec

set_option maxRecDepth 100000 in
set_option maxHeartbeats 1000000 in
theorem rnext_calls (p : PS) (now : Int) (b b2 cap : Nat) {w0 w : World} {E : List Nat} {Lk : List Ent} (hok : p.ok)
    (hcl : Cl w0 E (.blk b [.slice (some ⟨b2, 0, none⟩) (p).l.length cap, .int .i64 ((p).last : Int)] 60 (0, 0) :: .row (some b2) cap (p).l.length 61 4 ((p).l.flatMap prC) :: Lk) w) : Calls Try.prog 28 #[.pointer (some ⟨b, 0, none⟩), .int .i64 now] w fun e w' => ∃ v L1, e = .returned v ∧ Cl w [b, b2] L1 w' ∧ v = nextV p now ∧ L1 = [.blk b [.slice (some ⟨b2, 0, none⟩) p.l.length cap, .int .i64 ((nextS p now).last : Int)] 60 (0, 0), .row (some b2) cap p.l.length 61 4 (p.l.flatMap prC)] := by
  have hl1 := hok.1
  have hl2 := hok.2.1
  have hl3 := hok.2.2.1
  refine calls_of_CW (L := [.blk b [.slice (some ⟨b2, 0, none⟩) (p).l.length cap, .int .i64 ((p).last : Int)] 60 (0, 0), .row (some b2) cap (p).l.length 61 4 ((p).l.flatMap prC)]) Try.func28 rfl (Nat.le_of_ble_eq_true rfl) (hcl.lent2) ?_
  refine CW.seq_k fun K1 hK1 => ?_
  refine CW.region ?_
  refine OW.q rfl rfl (yq_assign rfl (by (conv => lhs; whnf) <;> rfl)) ?_
  refine OW.q rfl rfl (yq_assign rfl (by (conv => lhs; whnf) <;> rfl)) ?_
  refine OW.nil ?_
  refine hK1 _ _ ?_
  refine CW.seq_k fun K2 hK2 => ?_
  refine CW.region ?_
  refine OW.q rfl rfl (yq_move rfl (by (conv => lhs; whnf) <;> rfl)) ?_
  refine OW.q rfl rfl (yq_nilCheck rfl (by (conv => lhs; whnf) <;> rfl)) ?_
  refine OW.q rfl rfl (yq_fieldAddr rfl (by (conv => lhs; whnf) <;> rfl) tf60_1 ti3) ?_
  refine OW.q rfl rfl (yq_load1 rfl (by (conv => lhs; whnf) <;> rfl) ti3 (by repeat' first | exact List.mem_cons_self .. | apply List.mem_cons_of_mem) (by rfl)) ?_
  refine OW.q rfl rfl (yq_assign rfl (by (conv => lhs; whnf) <;> rfl)) ?_
  refine OW.nil ?_
  refine hK2 _ _ ?_
  refine CW.seq_k fun K3 hK3 => ?_
  refine CW.seq_k fun K4 hK4 => ?_
  refine CW.region ?_
  refine OW.q rfl rfl (yq_assign rfl (by (conv => lhs; whnf) <;> rfl)) ?_
  refine OW.nil ?_
  refine hK4 _ _ ?_
  refine CW.block ?_
  refine CW.loop (σ := Nat × Nat) (fun z ρ L => match z with | (m, c) => Has ρ [(0, .pointer (some ⟨b, 0, none⟩)), (1, .int .i64 now), (6, .int .i64 (c : Int)), (7, .int .i64 (m : Int))] ∧ c = (p.last + m) % p.l.length ∧ m ≤ p.l.length ∧ nextI p now = nextF p (near now) (p.l.length - m) (m + 1) ∧ L = [.blk b [.slice (some ⟨b2, 0, none⟩) (p).l.length cap, .int .i64 ((p).last : Int)] 60 (0, 0), .row (some b2) cap (p).l.length 61 4 ((p).l.flatMap prC)]) (fun z => p.l.length - z.1) ((0, p.last)) ?_ ?_
  · exact ⟨Has.mk ⟨(by (conv => lhs; whnf) <;> rfl), (by (conv => lhs; whnf) <;> rfl), (by (conv => lhs; whnf) <;> rfl), (by (conv => lhs; whnf) <;> rfl), trivial⟩, (Nat.mod_eq_of_lt hl3).symm, by omega, rfl, rfl⟩
  · rintro ⟨m, c⟩ _ _ ⟨⟨ρ', rfl⟩, hc, hm, hnx, rfl⟩
    refine CW.seq_k fun K5 hK5 => ?_
    refine CW.seq_k fun K6 hK6 => ?_
    refine CW.region ?_
    refine OW.q rfl rfl (yq_move rfl (by (conv => lhs; whnf) <;> rfl)) ?_
    refine OW.q rfl rfl (yq_move rfl (by (conv => lhs; whnf) <;> rfl)) ?_
    refine OW.q rfl rfl (yq_nilCheck rfl (by (conv => lhs; whnf) <;> rfl)) ?_
    refine OW.q rfl rfl (yq_fieldAddr rfl (by (conv => lhs; whnf) <;> rfl) tf60_0 ti58) ?_
    refine OW.q rfl rfl (yq_load1 rfl (by (conv => lhs; whnf) <;> rfl) ti58 (by repeat' first | exact List.mem_cons_self .. | apply List.mem_cons_of_mem) (by rfl)) ?_
    refine OW.q rfl rfl (yq_len_slice rfl ts58 (by (conv => lhs; whnf) <;> rfl)) ?_
    refine OW.q rfl rfl (yq_lss rfl (by (conv => lhs; whnf) <;> rfl) (by (conv => lhs; whnf) <;> rfl)) ?_
    refine OW.nil ?_
    refine hK6 _ _ ?_
    refine CW.cond_dec (by (conv => lhs; whnf) <;> rfl) (fun hc1 => ?_) (fun hc1 => ?_)
    · obtain ⟨j, hj⟩ : ∃ j, j = (p.last + (m + 1)) % p.l.length := ⟨_, rfl⟩
      have hjn : j < p.l.length := by rw [hj]; exact Nat.mod_lt _ (by omega)
      have hw := @wrap_next p.last p.l.length m (by omega)
      rw [← hj, ← hc] at hw
      have hcm := Nat.mod_lt (p.last + m) (show 0 < p.l.length by omega)
      rw [← hc] at hcm
      have hf : p.l.length - m = (p.l.length - m - 1) + 1 := by omega
      refine CW.skip ?_
      refine hK5 _ _ ?_
      refine CW.seq_k fun K7 hK7 => ?_
      refine CW.block ?_
      refine CW.seq_k fun K8 hK8 => ?_
      refine CW.region ?_
      refine OW.q rfl rfl (yq_move rfl (by (conv => lhs; whnf) <;> rfl)) ?_
      refine OW.q rfl rfl (yq_add rfl (by (conv => lhs; whnf) <;> rfl) (by (conv => lhs; whnf) <;> rfl) (by omega)) ?_
      refine OW.q rfl rfl (yq_assign rfl (by (conv => lhs; whnf) <;> rfl)) ?_
      refine OW.nil ?_
      refine hK8 _ _ ?_
      refine CW.seq_k fun K9 hK9 => ?_
      refine CW.seq_k fun K10 hK10 => ?_
      refine CW.region ?_
      refine OW.q rfl rfl (yq_move rfl (by (conv => lhs; whnf) <;> rfl)) ?_
      refine OW.q rfl rfl (yq_move rfl (by (conv => lhs; whnf) <;> rfl)) ?_
      refine OW.q rfl rfl (yq_nilCheck rfl (by (conv => lhs; whnf) <;> rfl)) ?_
      refine OW.q rfl rfl (yq_fieldAddr rfl (by (conv => lhs; whnf) <;> rfl) tf60_0 ti58) ?_
      refine OW.q rfl rfl (yq_load1 rfl (by (conv => lhs; whnf) <;> rfl) ti58 (by repeat' first | exact List.mem_cons_self .. | apply List.mem_cons_of_mem) (by rfl)) ?_
      refine OW.q rfl rfl (yq_len_slice rfl ts58 (by (conv => lhs; whnf) <;> rfl)) ?_
      refine OW.q rfl rfl (yq_eql rfl (by (conv => lhs; whnf) <;> rfl) (by (conv => lhs; whnf) <;> rfl)) ?_
      refine OW.nil ?_
      refine hK10 _ _ ?_
      refine CW.cutK (fun ρ L => Has ρ [(0, .pointer (some ⟨b, 0, none⟩)), (1, .int .i64 now), (6, .int .i64 (j : Int)), (7, .int .i64 (m : Int))] ∧ L = [.blk b [.slice (some ⟨b2, 0, none⟩) (p).l.length cap, .int .i64 ((p).last : Int)] 60 (0, 0), .row (some b2) cap (p).l.length 61 4 ((p).l.flatMap prC)]) ?_ ?_
      · refine CW.cond_dec (by (conv => lhs; whnf) <;> rfl) (fun hc3 => ?_) (fun hc3 => ?_)
        · refine CW.region ?_
          refine OW.q rfl rfl (yq_assign rfl (by (conv => lhs; whnf) <;> rfl)) ?_
          refine OW.nil ?_
          have hj0 : j = 0 := by rw [hw, if_pos (by omega)]
          rw [hj0]
          exact ⟨Has.mk ⟨(by (conv => lhs; whnf) <;> rfl), (by (conv => lhs; whnf) <;> rfl), (by (conv => lhs; whnf) <;> rfl), (by (conv => lhs; whnf) <;> rfl), trivial⟩, rfl⟩
        · refine CW.skip ?_
          have hj0 : j = c + 1 := by rw [hw, if_neg (by omega)]
          rw [hj0]
          exact ⟨Has.mk ⟨(by (conv => lhs; whnf) <;> rfl), (by (conv => lhs; whnf) <;> rfl), (by (conv => lhs; whnf) <;> rfl), (by (conv => lhs; whnf) <;> rfl), trivial⟩, rfl⟩
      · rintro _ _ ⟨⟨ρ', rfl⟩, rfl⟩
        refine hK9 _ _ ?_
        refine CW.seq_k fun K11 hK11 => ?_
        refine CW.draw mixed (by kernel_rfl) ?_
        refine QW.q rfl rfl (yq_move rfl (by (conv => lhs; whnf) <;> rfl)) ?_
        refine QW.q rfl rfl (yq_nilCheck rfl (by (conv => lhs; whnf) <;> rfl)) ?_
        refine QW.q rfl rfl (yq_fieldAddr rfl (by (conv => lhs; whnf) <;> rfl) tf60_0 ti58) ?_
        refine QW.q rfl rfl (yq_load1 rfl (by (conv => lhs; whnf) <;> rfl) ti58 (by repeat' first | exact List.mem_cons_self .. | apply List.mem_cons_of_mem) (by rfl)) ?_
        refine QW.q rfl rfl (yq_move rfl (by (conv => lhs; whnf) <;> rfl)) ?_
        refine QW.q rfl rfl (yq_index_slice rfl (by (conv => lhs; whnf) <;> rfl) (by (conv => lhs; whnf) <;> rfl) ts58 ti61 (by omega) (by omega)) ?_
        refine QW.q rfl rfl (yq_fieldAddr rfl (by (conv => lhs; whnf) <;> rfl) tf61_2 ti3) ?_
        refine QW.q rfl rfl (yq_load_c (v := .int .i64 (p.get j).upto) rfl (by (conv => lhs; whnf) <;> rfl) (fun w hw => run_load_one ti3 ((psAt_row hw (by repeat' first | exact List.mem_cons_self .. | apply List.mem_cons_of_mem) (by repeat' first | exact List.mem_cons_self .. | apply List.mem_cons_of_mem)).at1 hjn (by decide) rfl))) ?_
        refine QW.q rfl rfl (yq_move rfl (by (conv => lhs; whnf) <;> rfl)) ?_
        refine QW.q rfl rfl (yq_call rfl rfl (.cons (by (conv => lhs; whnf) <;> rfl) .nil) en36 (fun w hw => rnear_calls now w)) ?_
        refine QW.q rfl rfl (yq_leq rfl (by (conv => lhs; whnf) <;> rfl) (by (conv => lhs; whnf) <;> rfl)) ?_
        refine QW.nil ?_
        refine hK11 _ _ ?_
        refine CW.cond_dec (by (conv => lhs; whnf) <;> rfl) (fun hc4 => ?_) (fun hc4 => ?_)
        · refine CW.seq_k fun K12 hK12 => ?_
          refine CW.region ?_
          refine OW.q rfl rfl (yq_move rfl (by (conv => lhs; whnf) <;> rfl)) ?_
          refine OW.q rfl rfl (yq_move rfl (by (conv => lhs; whnf) <;> rfl)) ?_
          refine OW.q rfl rfl (yq_nilCheck rfl (by (conv => lhs; whnf) <;> rfl)) ?_
          refine OW.q rfl rfl (yq_fieldAddr rfl (by (conv => lhs; whnf) <;> rfl) tf60_1 ti3) ?_
          refine OW.store1 rfl rfl rfl (by (conv => lhs; whnf) <;> rfl) (by (conv => lhs; whnf) <;> rfl) ti3 (by rfl) (by repeat' first | exact Put.head | apply Put.tail) (by rfl) (Nat.le_of_ble_eq_true rfl) ?_
          refine OW.nil ?_
          refine hK12 _ _ ?_
          refine CW.seq_k fun K13 hK13 => ?_
          refine CW.region ?_
          refine OW.q rfl rfl (yq_move rfl (by (conv => lhs; whnf) <;> rfl)) ?_
          refine OW.q rfl rfl (yq_assign rfl (by (conv => lhs; whnf) <;> rfl)) ?_
          refine OW.q rfl rfl (yq_assign rfl (by (conv => lhs; whnf) <;> rfl)) ?_
          refine OW.nil ?_
          refine hK13 _ _ ?_
          refine CW.ret ?_
          refine blockQ_ret ?_
          refine then_ret ?_
          refine then_ret ?_
          refine blockQ_ret ?_
          refine then_ret ?_
          -- ret
          have hso : nextI p now = some j := by rw [hnx, hf, nextF_step, ← hj, if_pos hc4]
          obtain ⟨e1, e2⟩ := next_some hso
          rw [e1, e2]
          exact fin2 (Or.inr rfl) rfl ⟨by decide, (by (conv => lhs; whnf) <;> rfl)⟩ ⟨by decide, (by (conv => lhs; whnf) <;> rfl)⟩ (fun w hw => ⟨_, _, rfl, hw, rfl, rfl⟩)
        · refine CW.skip ?_
          refine hK7 _ _ ?_
          refine CW.region ?_
          refine OW.q rfl rfl (yq_move rfl (by (conv => lhs; whnf) <;> rfl)) ?_
          refine OW.q rfl rfl (yq_add rfl (by (conv => lhs; whnf) <;> rfl) (by (conv => lhs; whnf) <;> rfl) (by omega)) ?_
          refine OW.q rfl rfl (yq_assign rfl (by (conv => lhs; whnf) <;> rfl)) ?_
          refine OW.nil ?_
          exact ⟨(m + 1, j), ⟨Has.mk ⟨(by (conv => lhs; whnf) <;> rfl), (by (conv => lhs; whnf) <;> rfl), (by (conv => lhs; whnf) <;> rfl), (by (conv => lhs; whnf) <;> rfl), trivial⟩, hj, by omega, by rw [hnx, hf, nextF_step, ← hj, if_neg hc4, show p.l.length - (m + 1) = p.l.length - m - 1 by omega], rfl⟩, by show p.l.length - (m + 1) < p.l.length - m; omega⟩
    · have hke : m = p.l.length := by omega
      have hno : nextI p now = none := by rw [hnx, hke, Nat.sub_self, nextF_none]
      refine CW.exit ?_
      refine then_exit ?_
      refine then_exit ?_
      refine blockQ_hit ?_
      refine hK3 _ _ ?_
      refine CW.seq_k fun K14 hK14 => ?_
      refine CW.region ?_
      refine OW.q rfl rfl (yq_assign rfl (by (conv => lhs; whnf) <;> rfl)) ?_
      refine OW.q rfl rfl (yq_assign rfl (by (conv => lhs; whnf) <;> rfl)) ?_
      refine OW.nil ?_
      refine hK14 _ _ ?_
      refine CW.ret ?_
      -- ret
      obtain ⟨e1, e2⟩ := next_none hno
      rw [e1, e2]
      exact fin2 (Or.inr rfl) rfl ⟨by decide, (by (conv => lhs; whnf) <;> rfl)⟩ ⟨by decide, (by (conv => lhs; whnf) <;> rfl)⟩ (fun w hw => ⟨_, _, rfl, hw, rfl, rfl⟩)

set_option maxRecDepth 100000 in
set_option maxHeartbeats 1000000 in
theorem rbarred_ps (p : PS) (i now : Int) (b b2 cap : Nat) (w : World) (hp : PsAt w b b2 cap p) (hok : p.ok) : Calls Try.prog 30 #[.pointer (some ⟨b, 0, none⟩), .int .i64 i, .int .i64 now] w fun e w' => e = .returned (.bool (decide (barredP p i now))) ∧ Cl w [] [] w' := by
  refine calls_of_CW (L := []) Try.func30 rfl (Nat.le_of_ble_eq_true rfl) (Cl.refl _) ?_
  refine CW.seq_k fun K1 hK1 => ?_
  refine CW.region ?_
  refine OW.q rfl rfl (yq_assign rfl (by (conv => lhs; whnf) <;> rfl)) ?_
  refine OW.nil ?_
  refine hK1 _ _ ?_
  refine CW.seq_k fun K2 hK2 => ?_
  refine CW.draw mixed (by kernel_rfl) ?_
  by_cases hin : inP p i
  · obtain ⟨hi0, hi1⟩ := id hin
    obtain ⟨k, rfl⟩ : ∃ k : Nat, i = (k : Int) := ⟨i.toNat, by omega⟩
    have hk : k < p.l.length := by omega
    obtain ⟨bx, hbx⟩ : ∃ bx : Bool, (p.get k).barred = bx := ⟨_, rfl⟩
    have hbxb : bx = true ↔ bx = true := Iff.refl _
    refine QW.q rfl rfl (yq_move rfl (by (conv => lhs; whnf) <;> rfl)) ?_
    refine QW.q rfl rfl (yq_move rfl (by (conv => lhs; whnf) <;> rfl)) ?_
    refine QW.q rfl rfl ((yq_call rfl rfl (.cons (by (conv => lhs; whnf) <;> rfl) (.cons (by (conv => lhs; whnf) <;> rfl) .nil)) en34 (fun w hw => is_calls p (k : Int) b b2 cap w (hp.mono hw))).to (v' := .bool true) (congrArg Value.bool (decide_eq_true hin))) ?_
    refine QW.q rfl rfl (yq_move rfl (by (conv => lhs; whnf) <;> rfl)) ?_
    refine QW.q rfl rfl (yq_move rfl (by (conv => lhs; whnf) <;> rfl)) ?_
    refine QW.q rfl rfl (yq_nilCheck rfl (by (conv => lhs; whnf) <;> rfl)) ?_
    refine QW.q rfl rfl (yq_fieldAddr rfl (by (conv => lhs; whnf) <;> rfl) tf60_0 ti58) ?_
    refine QW.q rfl rfl (yq_load_c (v := .slice (some ⟨b2, 0, none⟩) p.l.length cap) rfl (by (conv => lhs; whnf) <;> rfl) (fun w hw => run_load_one ti58 (hp.mono hw).c0)) ?_
    refine QW.q rfl rfl (yq_move rfl (by (conv => lhs; whnf) <;> rfl)) ?_
    refine QW.q rfl rfl (yq_index_slice rfl (by (conv => lhs; whnf) <;> rfl) (by (conv => lhs; whnf) <;> rfl) ts58 ti61 (by omega) (by omega)) ?_
    refine QW.q rfl rfl (yq_fieldAddr rfl (by (conv => lhs; whnf) <;> rfl) tf61_3 ti4) ?_
    refine QW.q rfl rfl (yq_load_c (v := .bool bx) rfl (by (conv => lhs; whnf) <;> rfl) (fun w hw => run_load_one ti4 ((hp.mono hw).at1 hk (by decide) (by rw [← hbx]; rfl)))) ?_
    refine QW.q rfl rfl (yq_pick rfl (by (conv => lhs; whnf) <;> rfl) (by (conv => lhs; whnf) <;> rfl)) ?_
    refine QW.q rfl rfl (yq_move rfl (by (conv => lhs; whnf) <;> rfl)) ?_
    apply QW.segAnd 12 [21, 22, 23, 24, 25, 26, 27, 28, 29, 30, 31] 32 hbxb
    · intro hbxbe
      refine QW.q (by subst hbxbe; rfl) rfl (yq_move rfl (by (conv => lhs; whnf) <;> rfl)) ?_
      refine QW.q (by subst hbxbe; rfl) rfl (yq_nilCheck rfl (by (conv => lhs; whnf) <;> rfl)) ?_
      refine QW.q (by subst hbxbe; rfl) rfl (yq_fieldAddr rfl (by (conv => lhs; whnf) <;> rfl) tf60_0 ti58) ?_
      refine QW.q (by subst hbxbe; rfl) rfl (yq_load_c (v := .slice (some ⟨b2, 0, none⟩) p.l.length cap) rfl (by (conv => lhs; whnf) <;> rfl) (fun w hw => run_load_one ti58 (hp.mono hw).c0)) ?_
      refine QW.q (by subst hbxbe; rfl) rfl (yq_move rfl (by (conv => lhs; whnf) <;> rfl)) ?_
      refine QW.q (by subst hbxbe; rfl) rfl (yq_index_slice rfl (by (conv => lhs; whnf) <;> rfl) (by (conv => lhs; whnf) <;> rfl) ts58 ti61 (by omega) (by omega)) ?_
      refine QW.q (by subst hbxbe; rfl) rfl (yq_fieldAddr rfl (by (conv => lhs; whnf) <;> rfl) tf61_2 ti3) ?_
      refine QW.q (by subst hbxbe; rfl) rfl (yq_load_c (v := .int .i64 (p.get k).upto) rfl (by (conv => lhs; whnf) <;> rfl) (fun w hw => run_load_one ti3 ((hp.mono hw).at1 hk (by decide) rfl))) ?_
      refine QW.q (by subst hbxbe; rfl) rfl (yq_move rfl (by (conv => lhs; whnf) <;> rfl)) ?_
      refine QW.q (by subst hbxbe; rfl) rfl (yq_call rfl rfl (.cons (by (conv => lhs; whnf) <;> rfl) .nil) en36 (fun w hw => rnear_calls now w)) ?_
      refine QW.qb (by subst hbxbe; rfl) rfl (yq_gtr rfl (by (conv => lhs; whnf) <;> rfl) (by (conv => lhs; whnf) <;> rfl)) (fun b31 hb31 => ?_)
      refine QW.q rfl rfl (yq_pick rfl (by (conv => lhs; whnf) <;> rfl) (by subst hbxbe; ((conv => lhs; whnf) <;> rfl))) ?_
      exact QW.nil (SegM.mk (any_c (any_c (any_c (any_c (any_c (any_c (any_c (any_c (any_c (any_c (any_c any_n))))))))))) (and_run hbxb hbxbe hb31))
    · intro hbxbe
      refine QW.skip (by subst hbxbe; rfl) rfl ?_
      refine QW.skip (by subst hbxbe; rfl) rfl ?_
      refine QW.skip (by subst hbxbe; rfl) rfl ?_
      refine QW.skip (by subst hbxbe; rfl) rfl ?_
      refine QW.skip (by subst hbxbe; rfl) rfl ?_
      refine QW.skip (by subst hbxbe; rfl) rfl ?_
      refine QW.skip (by subst hbxbe; rfl) rfl ?_
      refine QW.skip (by subst hbxbe; rfl) rfl ?_
      refine QW.skip (by subst hbxbe; rfl) rfl ?_
      refine QW.skip (by subst hbxbe; rfl) rfl ?_
      refine QW.skip (by subst hbxbe; rfl) rfl ?_
      refine QW.q rfl rfl (yq_pick rfl (by (conv => lhs; whnf) <;> rfl) (by subst hbxbe; ((conv => lhs; whnf) <;> rfl))) ?_
      exact QW.nil (SegM.mk (any_c (any_c (any_c (any_c (any_c (any_c (any_c (any_c (any_c (any_c (any_c any_n))))))))))) (and_skip hbxb hbxbe))
    · intro ρ32 b32 hA hb32
      obtain ⟨x21, x22, x23, x24, x25, x26, x27, x28, x29, x30, x31, rfl⟩ := hA
      refine QW.q rfl rfl (yq_assign rfl (by (conv => lhs; whnf) <;> rfl)) ?_
      refine QW.nil ?_
      refine hK2 _ _ ?_
      refine CW.ret ?_
      -- ret (ret)
      have hbe : b32 = decide (barredP p (k : Int) now) := Bool.eq_iff_iff.2 (by
        rw [hb32, ← hbx, decide_eq_true_iff]
        unfold barredP
        rw [Int.toNat_natCast]
        simp [hin])
      subst hbe
      exact fin1 (Or.inr rfl) rfl ⟨by decide, (by (conv => lhs; whnf) <;> rfl)⟩ (fun w hw => ⟨rfl, hw.sub (List.nil_sublist _)⟩)
  · refine QW.q rfl rfl (yq_move rfl (by (conv => lhs; whnf) <;> rfl)) ?_
    refine QW.q rfl rfl (yq_move rfl (by (conv => lhs; whnf) <;> rfl)) ?_
    refine QW.q rfl rfl ((yq_call rfl rfl (.cons (by (conv => lhs; whnf) <;> rfl) (.cons (by (conv => lhs; whnf) <;> rfl) .nil)) en34 (fun w hw => is_calls p i b b2 cap w (hp.mono hw))).to (v' := .bool false) (congrArg Value.bool (decide_eq_false hin))) ?_
    refine QW.q rfl rfl (yq_move rfl (by (conv => lhs; whnf) <;> rfl)) ?_
    refine QW.skip rfl rfl ?_
    refine QW.skip rfl rfl ?_
    refine QW.skip rfl rfl ?_
    refine QW.skip rfl rfl ?_
    refine QW.skip rfl rfl ?_
    refine QW.skip rfl rfl ?_
    refine QW.skip rfl rfl ?_
    refine QW.skip rfl rfl ?_
    refine QW.q rfl rfl (yq_pick rfl (by (conv => lhs; whnf) <;> rfl) (by (conv => lhs; whnf) <;> rfl)) ?_
    refine QW.q rfl rfl (yq_move rfl (by (conv => lhs; whnf) <;> rfl)) ?_
    refine QW.skip rfl rfl ?_
    refine QW.skip rfl rfl ?_
    refine QW.skip rfl rfl ?_
    refine QW.skip rfl rfl ?_
    refine QW.skip rfl rfl ?_
    refine QW.skip rfl rfl ?_
    refine QW.skip rfl rfl ?_
    refine QW.skip rfl rfl ?_
    refine QW.skip rfl rfl ?_
    refine QW.skip rfl rfl ?_
    refine QW.skip rfl rfl ?_
    refine QW.q rfl rfl (yq_pick rfl (by (conv => lhs; whnf) <;> rfl) (by (conv => lhs; whnf) <;> rfl)) ?_
    refine QW.q rfl rfl (yq_assign rfl (by (conv => lhs; whnf) <;> rfl)) ?_
    refine QW.nil ?_
    refine hK2 _ _ ?_
    refine CW.ret ?_
    -- ret (ret)
    rw [decide_eq_false (fun h => hin h.1)]
    exact fin1 (Or.inr rfl) rfl ⟨by decide, (by (conv => lhs; whnf) <;> rfl)⟩ (fun w hw => ⟨rfl, hw.sub (List.nil_sublist _)⟩)

set_option maxRecDepth 100000 in
set_option maxHeartbeats 1000000 in
theorem rnew_bad (n : Int) (w : World) (hn : n < 1 ∨ 8 < n) : Calls Try.prog 22 #[.int .i64 n] w fun e w' => e = .returned (.tuple #[.pointer none, .int .i64 2]) ∧ Cl w [] [] w' := by
  refine calls_of_CW (L := []) Try.func22 rfl (Nat.le_of_ble_eq_true rfl) (Cl.refl _) ?_
  refine CW.seq_k fun K1 hK1 => ?_
  refine CW.region ?_
  refine OW.q rfl rfl (yq_assign rfl (by (conv => lhs; whnf) <;> rfl)) ?_
  refine OW.q rfl rfl (yq_assign rfl (by (conv => lhs; whnf) <;> rfl)) ?_
  refine OW.nil ?_
  refine hK1 _ _ ?_
  refine CW.seq_k fun K2 hK2 => ?_
  refine CW.seq_k fun K3 hK3 => ?_
  refine CW.region ?_
  refine OW.q rfl rfl (yq_move rfl (by (conv => lhs; whnf) <;> rfl)) ?_
  refine OW.qb rfl rfl (yq_lss rfl (by (conv => lhs; whnf) <;> rfl) (by (conv => lhs; whnf) <;> rfl)) (fun b7 hb7 => ?_)
  refine OW.q rfl rfl (yq_move rfl (by (conv => lhs; whnf) <;> rfl)) ?_
  apply OW.segOr 3 [9, 10] 11 hb7
  · intro hb7e
    refine QW.q (by subst hb7e; rfl) rfl (yq_move rfl (by (conv => lhs; whnf) <;> rfl)) ?_
    refine QW.qb (by subst hb7e; rfl) rfl (yq_gtr rfl (by (conv => lhs; whnf) <;> rfl) (by (conv => lhs; whnf) <;> rfl)) (fun b10 hb10 => ?_)
    refine QW.q rfl rfl (yq_pick rfl (by (conv => lhs; whnf) <;> rfl) (by subst hb7e; ((conv => lhs; whnf) <;> rfl))) ?_
    exact QW.nil (SegM.mk (any_c (any_c any_n)) (or_run hb7 hb7e hb10))
  · intro hb7e
    refine QW.skip (by subst hb7e; rfl) rfl ?_
    refine QW.skip (by subst hb7e; rfl) rfl ?_
    refine QW.q rfl rfl (yq_pick rfl (by (conv => lhs; whnf) <;> rfl) (by subst hb7e; ((conv => lhs; whnf) <;> rfl))) ?_
    exact QW.nil (SegM.mk (any_c (any_c any_n)) (or_skip hb7 hb7e))
  · intro ρ11 b11 hA hb11
    obtain ⟨x9, x10, rfl⟩ := hA
    refine OW.nil ?_
    refine hK3 _ _ ?_
    refine CW.condq (by (conv => lhs; whnf) <;> rfl) hb11 (fun hc0 => ?_) (fun hc0 => ?_)
    · refine CW.seq_k fun K4 hK4 => ?_
      refine CW.region ?_
      refine OW.q rfl rfl (yq_assign rfl (by (conv => lhs; whnf) <;> rfl)) ?_
      refine OW.q rfl rfl (yq_assign rfl (by (conv => lhs; whnf) <;> rfl)) ?_
      refine OW.nil ?_
      refine hK4 _ _ ?_
      refine CW.ret ?_
      refine then_ret ?_
      -- ret (ret)
      exact fin2 (Or.inr rfl) rfl ⟨by decide, (by (conv => lhs; whnf) <;> rfl)⟩ ⟨by decide, (by (conv => lhs; whnf) <;> rfl)⟩ (fun w hw => ⟨rfl, hw.sub (List.nil_sublist _)⟩)
    · exfalso; omega

set_option maxRecDepth 100000 in
set_option maxHeartbeats 1000000 in
theorem rnew_ok (n : Nat) (w : World) (h1 : 1 ≤ n) (h8 : n ≤ 8) : Calls Try.prog 22 #[.int .i64 (n : Int)] w fun e w' => ∃ v L1, e = .returned v ∧ Cl w [] L1 w' ∧ ∃ b b2 cap, v = .tuple #[.pointer (some ⟨b, 0, none⟩), .int .i64 0] ∧
    L1 = [.blk b [.slice (some ⟨b2, 0, none⟩) n cap, .int .i64 (((PS.new n).last : Nat) : Int)] 60 (0, 0), .row (some b2) cap n 61 4 ((PS.new n).l.flatMap prC)] := by
  refine calls_of_CW (L := []) Try.func22 rfl (Nat.le_of_ble_eq_true rfl) (Cl.refl _) ?_
  refine CW.seq_k fun K1 hK1 => ?_
  refine CW.region ?_
  refine OW.q rfl rfl (yq_assign rfl (by (conv => lhs; whnf) <;> rfl)) ?_
  refine OW.q rfl rfl (yq_assign rfl (by (conv => lhs; whnf) <;> rfl)) ?_
  refine OW.nil ?_
  refine hK1 _ _ ?_
  refine CW.seq_k fun K2 hK2 => ?_
  refine CW.seq_k fun K3 hK3 => ?_
  refine CW.region ?_
  refine OW.q rfl rfl (yq_move rfl (by (conv => lhs; whnf) <;> rfl)) ?_
  refine OW.qb rfl rfl (yq_lss rfl (by (conv => lhs; whnf) <;> rfl) (by (conv => lhs; whnf) <;> rfl)) (fun b7 hb7 => ?_)
  refine OW.q rfl rfl (yq_move rfl (by (conv => lhs; whnf) <;> rfl)) ?_
  apply OW.segOr 3 [9, 10] 11 hb7
  · intro hb7e
    refine QW.q (by subst hb7e; rfl) rfl (yq_move rfl (by (conv => lhs; whnf) <;> rfl)) ?_
    refine QW.qb (by subst hb7e; rfl) rfl (yq_gtr rfl (by (conv => lhs; whnf) <;> rfl) (by (conv => lhs; whnf) <;> rfl)) (fun b10 hb10 => ?_)
    refine QW.q rfl rfl (yq_pick rfl (by (conv => lhs; whnf) <;> rfl) (by subst hb7e; ((conv => lhs; whnf) <;> rfl))) ?_
    exact QW.nil (SegM.mk (any_c (any_c any_n)) (or_run hb7 hb7e hb10))
  · intro hb7e
    refine QW.skip (by subst hb7e; rfl) rfl ?_
    refine QW.skip (by subst hb7e; rfl) rfl ?_
    refine QW.q rfl rfl (yq_pick rfl (by (conv => lhs; whnf) <;> rfl) (by subst hb7e; ((conv => lhs; whnf) <;> rfl))) ?_
    exact QW.nil (SegM.mk (any_c (any_c any_n)) (or_skip hb7 hb7e))
  · intro ρ11 b11 hA hb11
    obtain ⟨x9, x10, rfl⟩ := hA
    refine OW.nil ?_
    refine hK3 _ _ ?_
    refine CW.condq (by (conv => lhs; whnf) <;> rfl) hb11 (fun hc0 => ?_) (fun hc0 => ?_)
    · exfalso; omega
    · refine CW.skip ?_
      refine hK2 _ _ ?_
      refine CW.seq_k fun K4 hK4 => ?_
      refine CW.region ?_
      refine OW.q rfl rfl (yq_move rfl (by (conv => lhs; whnf) <;> rfl)) ?_
      refine OW.q rfl rfl (yq_sub_e (r := ((n - 1 : Nat) : Int)) rfl (by (conv => lhs; whnf) <;> rfl) (by (conv => lhs; whnf) <;> rfl) (by rw [wrap64_in (by omega)]; omega)) ?_
      refine OW.q rfl rfl (yq_build (cs := [rowV none 0 0, .int .i64 ((n - 1 : Nat) : Int)]) rfl rfl (by kernel_rfl)) ?_
      refine OW.box (cs := [rowV none 0 0, .int .i64 ((n - 1 : Nat) : Int)]) rfl rfl rfl (by (conv => lhs; whnf) <;> rfl) rfl (fun b15 => ?_)
      refine OW.q rfl rfl (yq_assign rfl (by (conv => lhs; whnf) <;> rfl)) ?_
      refine OW.nil ?_
      refine hK4 _ _ ?_
      refine CW.seq_k fun K5 hK5 => ?_
      refine CW.seq_k fun K6 hK6 => ?_
      refine CW.nilrow 61 4 ?_
      refine CW.region ?_
      refine OW.q rfl rfl (yq_assign rfl (by (conv => lhs; whnf) <;> rfl)) ?_
      refine OW.nil ?_
      refine hK6 _ _ ?_
      refine CW.block ?_
      refine CW.loop (σ := Nat × Option Nat × Nat) (fun z ρ L => match z with | (i, a, c) => Has ρ [(0, .int .i64 (n : Int)), (4, .pointer (some ⟨b15, 0, none⟩)), (5, .int .i64 (i : Int))] ∧ i ≤ n ∧ L = [.row a c (i) 61 4 ((List.replicate (i) Pr.zero).flatMap prC), .blk b15 [rowV a (i) c, .int .i64 ((n - 1 : Nat) : Int)] 60 (0, 0)]) (fun z => n - z.1) ((0, none, 0)) ?_ ?_
      · exact ⟨Has.mk ⟨(by (conv => lhs; whnf) <;> rfl), (by (conv => lhs; whnf) <;> rfl), (by (conv => lhs; whnf) <;> rfl), trivial⟩, by omega, rfl⟩
      · rintro ⟨i, a, c⟩ _ _ ⟨⟨ρ', rfl⟩, hi, rfl⟩
        refine CW.seq_k fun K7 hK7 => ?_
        refine CW.seq_k fun K8 hK8 => ?_
        refine CW.region ?_
        refine OW.q rfl rfl (yq_move rfl (by (conv => lhs; whnf) <;> rfl)) ?_
        refine OW.q rfl rfl (yq_move rfl (by (conv => lhs; whnf) <;> rfl)) ?_
        refine OW.q rfl rfl (yq_lss rfl (by (conv => lhs; whnf) <;> rfl) (by (conv => lhs; whnf) <;> rfl)) ?_
        refine OW.nil ?_
        refine hK8 _ _ ?_
        refine CW.cond_dec (by (conv => lhs; whnf) <;> rfl) (fun hc2 => ?_) (fun hc2 => ?_)
        · refine CW.skip ?_
          refine hK7 _ _ ?_
          refine CW.seq_k fun K9 hK9 => ?_
          refine CW.block ?_
          refine CW.region ?_
          refine OW.q rfl rfl (yq_move rfl (by (conv => lhs; whnf) <;> rfl)) ?_
          refine OW.q rfl rfl (yq_move rfl (by (conv => lhs; whnf) <;> rfl)) ?_
          refine OW.q rfl rfl (yq_nilCheck rfl (by (conv => lhs; whnf) <;> rfl)) ?_
          refine OW.q rfl rfl (yq_fieldAddr rfl (by (conv => lhs; whnf) <;> rfl) tf60_0 ti58) ?_
          refine OW.q rfl rfl (yq_load1 (v := rowV a i c) rfl (by (conv => lhs; whnf) <;> rfl) ti58 (by repeat' first | exact List.mem_cons_self .. | apply List.mem_cons_of_mem) (by rfl)) ?_
          refine OW.q rfl rfl (yq_build (parts := []) (pv := []) (cs := prC Pr.zero) rfl rfl (by kernel_rfl)) ?_
          refine OW.slicelit (vs := [.agg (prC Pr.zero).toArray]) rfl rfl rfl rfl ts58 ti61 tz61 (by decide) rfl (by decide) (by intro v hv; rw [List.mem_singleton.1 hv]; rfl) (by decide) (cs := prC Pr.zero) (by rfl) (fun bl => ?_)
          refine OW.append (news := prC Pr.zero) rfl rfl rfl (by (conv => lhs; whnf) <;> rfl) (by (conv => lhs; whnf) <;> rfl) ts58 ti61 tz61 (by repeat' first | exact Del.head | apply Del.tail) (blk_cells (by repeat' first | exact List.mem_cons_self .. | apply List.mem_cons_of_mem)) rfl (prC_one _) rfl (by decide) (by simp only [maxLen]; omega) (by omega) (fun a' c' => ?_)
          refine OW.q rfl rfl (yq_nilCheck rfl (by (conv => lhs; whnf) <;> rfl)) ?_
          refine OW.q rfl rfl (yq_fieldAddr rfl (by (conv => lhs; whnf) <;> rfl) tf60_0 ti58) ?_
          refine OW.store' rfl rfl rfl (by (conv => lhs; whnf) <;> rfl) (by (conv => lhs; whnf) <;> rfl) (vs := [rowV a' (i + 1) c']) ti58 (by cases a' <;> rfl) (by intro u hu; rw [List.mem_singleton.1 hu]; cases a' <;> rfl) (by repeat' first | exact Put.head | apply Put.tail) (cs' := [rowV a' (i + 1) c', .int .i64 ((n - 1 : Nat) : Int)]) (by rfl) (Nat.le_of_ble_eq_true rfl) ?_
          refine OW.nil ?_
          refine hK9 _ _ ?_
          refine CW.drop (L' := [.row a' c' (i + 1) 61 4 ((List.replicate i Pr.zero).flatMap prC ++ prC Pr.zero), .blk b15 [rowV a' (i + 1) c', .int .i64 ((n - 1 : Nat) : Int)] 60 (0, 0)]) (by repeat' first | exact List.Sublist.refl _ | exact List.nil_sublist _ | apply List.Sublist.cons_cons | apply List.Sublist.cons) ?_
          refine CW.region ?_
          refine OW.q rfl rfl (yq_move rfl (by (conv => lhs; whnf) <;> rfl)) ?_
          refine OW.q rfl rfl (yq_add rfl (by (conv => lhs; whnf) <;> rfl) (by (conv => lhs; whnf) <;> rfl) (by omega)) ?_
          refine OW.q rfl rfl (yq_assign rfl (by (conv => lhs; whnf) <;> rfl)) ?_
          refine OW.nil ?_
          exact ⟨(i + 1, a', c'), ⟨Has.mk ⟨(by (conv => lhs; whnf) <;> rfl), (by (conv => lhs; whnf) <;> rfl), (by (conv => lhs; whnf) <;> rfl), trivial⟩, by omega, by rw [← repl_snoc]⟩, by show n - (i + 1) < n - i; omega⟩
        · obtain rfl : i = n := by omega
          refine CW.exit ?_
          refine then_exit ?_
          refine then_exit ?_
          refine blockQ_hit ?_
          refine hK5 _ _ ?_
          refine CW.seq_k fun K10 hK10 => ?_
          refine CW.region ?_
          refine OW.q rfl rfl (yq_move rfl (by (conv => lhs; whnf) <;> rfl)) ?_
          refine OW.q rfl rfl (yq_assign rfl (by (conv => lhs; whnf) <;> rfl)) ?_
          refine OW.q rfl rfl (yq_assign rfl (by (conv => lhs; whnf) <;> rfl)) ?_
          refine OW.nil ?_
          refine hK10 _ _ ?_
          refine CW.ret ?_
          -- ret (ret)
          obtain ⟨q, rfl⟩ | rfl : (∃ q, a = some q) ∨ a = none := by cases a with
            | none => exact .inr rfl
            | some q => exact .inl ⟨q, rfl⟩
          · exact fin2 (Or.inr rfl) rfl ⟨by decide, (by (conv => lhs; whnf) <;> rfl)⟩ ⟨by decide, (by (conv => lhs; whnf) <;> rfl)⟩ (fun w hw => ⟨_, _, rfl, clS hw, b15, q, c, rfl, rfl⟩)
          · exact fin2 (Or.inr rfl) rfl ⟨by decide, (by (conv => lhs; whnf) <;> rfl)⟩ ⟨by decide, (by (conv => lhs; whnf) <;> rfl)⟩ (fun w hw => by
              exfalso
              have hr : w.ownsRow 0 61 4 (rowV none i c) i ((List.replicate i Pr.zero).flatMap prC) := hw.own _ (List.mem_cons_self ..)
              rcases hr.2 with ⟨_, h3⟩ | ⟨g', cap', cur, h2, _⟩
              · omega
              · simp [rowV] at h2)

theorem prty61 : PrTy Try.prog 61 3 3 3 4 := ⟨by kernel_rfl, Try.underlying61, by kernel_rfl, by kernel_rfl, Try.underlying3, ⟨_, _, ti3⟩, Try.underlying3, ⟨_, _, ti3⟩, Try.underlying3, ⟨_, _, ti3⟩, Try.underlying4, ⟨_, _, ti4⟩⟩

set_option maxRecDepth 100000 in
set_option maxHeartbeats 1000000 in
theorem alike_calls (p : PS) (b b2 cap c c2 capc : Nat) (w : World) (hp : PsAt w b b2 cap p) (hq : PsAt w c c2 capc p) (hok : p.ok) : Calls Try.prog 29 #[.pointer (some ⟨b, 0, none⟩), .pointer (some ⟨c, 0, none⟩)] w fun e w' => e = .returned (.bool true) ∧ Cl w [] [] w' := by
  have hl1 := hok.1
  have hl2 := hok.2.1
  refine calls_of_CW (L := []) Try.func29 rfl (Nat.le_of_ble_eq_true rfl) (Cl.refl _) ?_
  refine CW.seq_k fun K1 hK1 => ?_
  refine CW.region ?_
  refine OW.q rfl rfl (yq_assign rfl (by (conv => lhs; whnf) <;> rfl)) ?_
  refine OW.nil ?_
  refine hK1 _ _ ?_
  refine CW.seq_k fun K2 hK2 => ?_
  refine CW.seq_k fun K3 hK3 => ?_
  refine CW.region ?_
  refine OW.q rfl rfl (yq_assign rfl (by (conv => lhs; whnf) <;> rfl)) ?_
  refine OW.nil ?_
  refine hK3 _ _ ?_
  refine CW.block ?_
  refine CW.loop (σ := Nat) (fun j ρ L => Has ρ [(0, .pointer (some ⟨b, 0, none⟩)), (1, .pointer (some ⟨c, 0, none⟩)), (5, .int .i64 (j : Int))] ∧ j ≤ p.l.length ∧ L = []) (fun j => p.l.length - j) (0) ?_ ?_
  · exact ⟨Has.mk ⟨(by (conv => lhs; whnf) <;> rfl), (by (conv => lhs; whnf) <;> rfl), (by (conv => lhs; whnf) <;> rfl), trivial⟩, by omega, rfl⟩
  · rintro j _ _ ⟨⟨ρ', rfl⟩, hj, rfl⟩
    refine CW.seq_k fun K4 hK4 => ?_
    refine CW.seq_k fun K5 hK5 => ?_
    refine CW.region ?_
    refine OW.q rfl rfl (yq_move rfl (by (conv => lhs; whnf) <;> rfl)) ?_
    refine OW.q rfl rfl (yq_move rfl (by (conv => lhs; whnf) <;> rfl)) ?_
    refine OW.q rfl rfl (yq_nilCheck rfl (by (conv => lhs; whnf) <;> rfl)) ?_
    refine OW.q rfl rfl (yq_fieldAddr rfl (by (conv => lhs; whnf) <;> rfl) tf60_0 ti58) ?_
    refine OW.q rfl rfl (yq_load_c (v := .slice (some ⟨c2, 0, none⟩) p.l.length capc) rfl (by (conv => lhs; whnf) <;> rfl) (fun w hw => run_load_one ti58 (hq.mono hw).c0)) ?_
    refine OW.q rfl rfl (yq_len_slice rfl ts58 (by (conv => lhs; whnf) <;> rfl)) ?_
    refine OW.q rfl rfl (yq_lss rfl (by (conv => lhs; whnf) <;> rfl) (by (conv => lhs; whnf) <;> rfl)) ?_
    refine OW.nil ?_
    refine hK5 _ _ ?_
    refine CW.cond_dec (by (conv => lhs; whnf) <;> rfl) (fun hc1 => ?_) (fun hc1 => ?_)
    · have hjk : j < p.l.length := by omega
      refine CW.skip ?_
      refine hK4 _ _ ?_
      refine CW.seq_k fun K6 hK6 => ?_
      refine CW.block ?_
      refine CW.seq_k fun K7 hK7 => ?_
      refine CW.region ?_
      refine OW.q rfl rfl (yq_move rfl (by (conv => lhs; whnf) <;> rfl)) ?_
      refine OW.q rfl rfl (yq_move rfl (by (conv => lhs; whnf) <;> rfl)) ?_
      refine OW.q rfl rfl (yq_call rfl rfl (.cons (by (conv => lhs; whnf) <;> rfl) ( .cons (by (conv => lhs; whnf) <;> rfl) .nil)) en20 (fun w hw => state_ps p (j : Int) b b2 cap w (hp.mono hw) hok)) ?_
      refine OW.q rfl rfl (yq_move rfl (by (conv => lhs; whnf) <;> rfl)) ?_
      refine OW.q rfl rfl (yq_extract rfl (by (conv => lhs; whnf) <;> rfl) rfl) ?_
      refine OW.q rfl rfl (yq_extract rfl (by (conv => lhs; whnf) <;> rfl) rfl) ?_
      refine OW.alloc rfl rfl rfl tz42 (fun b6 => ?_)
      refine OW.store' rfl rfl rfl (by (conv => lhs; whnf) <;> rfl) (by (conv => lhs; whnf) <;> rfl) (vs := prC (stateX p (j : Int))) ti42 rfl (prC_one _) (by repeat' first | exact Put.head | apply Put.tail) (cs' := prC (stateX p (j : Int))) (by exact spl_all _ _ rfl) (by exact Nat.le_of_ble_eq_true rfl) ?_
      rw [actE_in (show inP p (j : Int) by unfold inP; omega), stateX_in hjk]
      refine OW.q rfl rfl (yq_assign rfl (by (conv => lhs; whnf) <;> rfl)) ?_
      refine OW.nil ?_
      refine hK7 _ _ ?_
      refine CW.seq_k fun K8 hK8 => ?_
      refine CW.draw mixed (by kernel_rfl) ?_
      refine QW.q rfl rfl (yq_move rfl (by (conv => lhs; whnf) <;> rfl)) ?_
      refine QW.q rfl rfl ((yq_neq rfl (by (conv => lhs; whnf) <;> rfl) (by (conv => lhs; whnf) <;> rfl)).to (v' := .bool false) (by simp)) ?_
      refine QW.q rfl rfl (yq_move rfl (by (conv => lhs; whnf) <;> rfl)) ?_
      refine QW.q rfl rfl ((yq_loadW (cs := prC (p.get j)) rfl (by (conv => lhs; whnf) <;> rfl) ti42 (by repeat' first | exact List.mem_cons_self .. | apply List.mem_cons_of_mem))) ?_
      refine QW.q rfl rfl (yq_move rfl (by (conv => lhs; whnf) <;> rfl)) ?_
      refine QW.q rfl rfl (yq_nilCheck rfl (by (conv => lhs; whnf) <;> rfl)) ?_
      refine QW.q rfl rfl (yq_fieldAddr rfl (by (conv => lhs; whnf) <;> rfl) tf60_0 ti58) ?_
      refine QW.q rfl rfl (yq_load_c (v := .slice (some ⟨c2, 0, none⟩) p.l.length capc) rfl (by (conv => lhs; whnf) <;> rfl) (fun w hw => run_load_one ti58 (hq.mono hw).c0)) ?_
      refine QW.q rfl rfl (yq_move rfl (by (conv => lhs; whnf) <;> rfl)) ?_
      refine QW.q rfl rfl (yq_index_slice rfl (by (conv => lhs; whnf) <;> rfl) (by (conv => lhs; whnf) <;> rfl) ts58 ti61 (by omega) (by omega)) ?_
      refine QW.q rfl rfl (yq_load_c (v := .agg (prC (p.get j)).toArray) rfl (by (conv => lhs; whnf) <;> rfl) (fun w hw => run_load_agg ti61 (fun q u hu => (hq.mono hw).row _ _ (pr_atA hjk q u hu)))) ?_
      refine QW.q rfl rfl ((yq_neq_pr (x := p.get j) rfl (by (conv => lhs; whnf) <;> rfl) (by (conv => lhs; whnf) <;> rfl) prty61).to (v' := .bool false) rfl) ?_
      refine QW.q rfl rfl (yq_pick rfl (by (conv => lhs; whnf) <;> rfl) (by (conv => lhs; whnf) <;> rfl)) ?_
      refine QW.nil ?_
      refine hK8 _ _ ?_
      refine CW.cond_f (by (conv => lhs; whnf) <;> rfl) ?_
      refine CW.skip ?_
      refine hK6 _ _ ?_
      refine CW.drop (List.nil_sublist _) ?_
      refine CW.region ?_
      refine OW.q rfl rfl (yq_move rfl (by (conv => lhs; whnf) <;> rfl)) ?_
      refine OW.q rfl rfl (yq_add rfl (by (conv => lhs; whnf) <;> rfl) (by (conv => lhs; whnf) <;> rfl) (by omega)) ?_
      refine OW.q rfl rfl (yq_assign rfl (by (conv => lhs; whnf) <;> rfl)) ?_
      refine OW.nil ?_
      exact ⟨j + 1, ⟨Has.mk ⟨(by (conv => lhs; whnf) <;> rfl), (by (conv => lhs; whnf) <;> rfl), (by (conv => lhs; whnf) <;> rfl), trivial⟩, by omega, rfl⟩, by omega⟩
    · obtain rfl : j = p.l.length := by omega
      refine CW.exit ?_
      refine then_exit ?_
      refine then_exit ?_
      refine blockQ_hit ?_
      refine hK2 _ _ ?_
      refine CW.seq_k fun K9 hK9 => ?_
      refine CW.region ?_
      refine OW.q rfl rfl (yq_move rfl (by (conv => lhs; whnf) <;> rfl)) ?_
      refine OW.q rfl rfl (yq_move rfl (by (conv => lhs; whnf) <;> rfl)) ?_
      refine OW.q rfl rfl (yq_nilCheck rfl (by (conv => lhs; whnf) <;> rfl)) ?_
      refine OW.q rfl rfl (yq_fieldAddr rfl (by (conv => lhs; whnf) <;> rfl) tf60_0 ti58) ?_
      refine OW.q rfl rfl (yq_load_c (v := .slice (some ⟨c2, 0, none⟩) p.l.length capc) rfl (by (conv => lhs; whnf) <;> rfl) (fun w hw => run_load_one ti58 (hq.mono hw).c0)) ?_
      refine OW.q rfl rfl (yq_len_slice rfl ts58 (by (conv => lhs; whnf) <;> rfl)) ?_
      refine OW.q rfl rfl (yq_call rfl rfl (.cons (by (conv => lhs; whnf) <;> rfl) ( .cons (by (conv => lhs; whnf) <;> rfl) .nil)) en20 (fun w hw => state_ps p (p.l.length : Int) b b2 cap w (hp.mono hw) hok)) ?_
      refine OW.q rfl rfl (yq_move rfl (by (conv => lhs; whnf) <;> rfl)) ?_
      refine OW.q rfl rfl (yq_extract rfl (by (conv => lhs; whnf) <;> rfl) rfl) ?_
      refine OW.q rfl rfl (yq_extract rfl (by (conv => lhs; whnf) <;> rfl) rfl) ?_
      refine OW.alloc rfl rfl rfl tz42 (fun b8 => ?_)
      refine OW.store' rfl rfl rfl (by (conv => lhs; whnf) <;> rfl) (by (conv => lhs; whnf) <;> rfl) (vs := prC (stateX p (p.l.length : Int))) ti42 rfl (prC_one _) (by repeat' first | exact Put.head | apply Put.tail) (cs' := prC (stateX p (p.l.length : Int))) (by exact spl_all _ _ rfl) (by exact Nat.le_of_ble_eq_true rfl) ?_
      rw [actE_out (show ¬ inP p (p.l.length : Int) by unfold inP; omega)]
      refine OW.q rfl rfl (yq_assign rfl (by (conv => lhs; whnf) <;> rfl)) ?_
      refine OW.nil ?_
      refine hK9 _ _ ?_
      refine CW.seq_k fun K10 hK10 => ?_
      refine CW.region ?_
      refine OW.q rfl rfl (yq_move rfl (by (conv => lhs; whnf) <;> rfl)) ?_
      refine OW.q rfl rfl (yq_call rfl rfl (.cons (by (conv => lhs; whnf) <;> rfl) ( .cons (by (conv => lhs; whnf) <;> rfl) .nil)) en20 (fun w hw => state_ps p (-1) b b2 cap w (hp.mono hw) hok)) ?_
      refine OW.q rfl rfl (yq_move rfl (by (conv => lhs; whnf) <;> rfl)) ?_
      refine OW.q rfl rfl (yq_extract rfl (by (conv => lhs; whnf) <;> rfl) rfl) ?_
      refine OW.q rfl rfl (yq_extract rfl (by (conv => lhs; whnf) <;> rfl) rfl) ?_
      refine OW.alloc rfl rfl rfl tz42 (fun b10 => ?_)
      refine OW.store' rfl rfl rfl (by (conv => lhs; whnf) <;> rfl) (by (conv => lhs; whnf) <;> rfl) (vs := prC (stateX p (-1))) ti42 rfl (prC_one _) (by repeat' first | exact Put.head | apply Put.tail) (cs' := prC (stateX p (-1))) (by exact spl_all _ _ rfl) (by exact Nat.le_of_ble_eq_true rfl) ?_
      rw [actE_out (show ¬ inP p (-1) by unfold inP; omega)]
      refine OW.q rfl rfl (yq_assign rfl (by (conv => lhs; whnf) <;> rfl)) ?_
      refine OW.nil ?_
      refine hK10 _ _ ?_
      refine CW.seq_k fun K11 hK11 => ?_
      refine CW.region ?_
      refine OW.q rfl rfl (yq_move rfl (by (conv => lhs; whnf) <;> rfl)) ?_
      refine OW.q rfl rfl ((yq_eql rfl (by (conv => lhs; whnf) <;> rfl) (by (conv => lhs; whnf) <;> rfl)).to (v' := .bool true) (by simp)) ?_
      refine OW.q rfl rfl (yq_move rfl (by (conv => lhs; whnf) <;> rfl)) ?_
      refine OW.q rfl rfl (yq_move rfl (by (conv => lhs; whnf) <;> rfl)) ?_
      refine OW.q rfl rfl ((yq_eql rfl (by (conv => lhs; whnf) <;> rfl) (by (conv => lhs; whnf) <;> rfl)).to (v' := .bool true) (by simp)) ?_
      refine OW.q rfl rfl (yq_pick rfl (by (conv => lhs; whnf) <;> rfl) (by (conv => lhs; whnf) <;> rfl)) ?_
      refine OW.q rfl rfl (yq_assign rfl (by (conv => lhs; whnf) <;> rfl)) ?_
      refine OW.nil ?_
      refine hK11 _ _ ?_
      refine CW.ret ?_
      -- ret (ret)
      exact fin1 (Or.inr rfl) rfl ⟨by decide, (by (conv => lhs; whnf) <;> rfl)⟩ (fun w hw => ⟨rfl, hw.sub (List.nil_sublist _)⟩)

end Go.Proofs.Ytahdekllphehkaa
