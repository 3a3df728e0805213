/- The walk of PathsCheck; no statement of the seat is proved here. -/
import Derived.Test.YtahdekllphehkaaDoorP4
set_option linter.unusedVariables false
set_option linter.unusedSimpArgs false
namespace Go.Proofs.YtahdekllphehkaaDoor
open Go.WL Go.Spec

theorem spl_flat0 {l : List Hash} {k : Nat} (h : k < l.length) (x : Hash) : spl (l.flatMap hc) (0 + k * 32) (hc x) = (l.set k x).flatMap hc := by rw [Nat.zero_add]; exact spl_flat h x

set_option maxRecDepth 100000 in
set_option maxHeartbeats 2000000 in
theorem pathsCheck_calls (cl cr o : Hash) (I N : Int) (path : List Hash) (v : Value) (w : World) (hs : HsAt w v path) (hI1 : -9223372036854775808 ≤ I) (hI2 : I ≤ 9223372036854775807) (hN1 : -9223372036854775808 ≤ N) (hN2 : N ≤ 9223372036854775807) (hg : GL w) :
    Calls Tryd.prog 9 #[.agg (hc cl ++ (hc cr ++ [Value.int .i64 I, Value.int .i64 N])).toArray, v, HV o] w fun e w' => e = .returned (.bool true) ∧ Cl w [] [] w' := by
  have hs0 := hs
  obtain ⟨a0, cap0, rfl⟩ := hs0.len
  have hA0 : ∀ (j : Nat) (u : Value), (hc cl)[j]? = some u → (hc cl ++ (hc cr ++ [Value.int .i64 I, Value.int .i64 N]))[0 + 0 + j]? = some u := fun j u hu => by
    have hj : j < (hc cl).length := by
      rcases Nat.lt_or_ge j (hc cl).length with h | h
      · exact h
      · rw [List.getElem?_eq_none h] at hu; cases hu
    rw [show 0 + 0 + j = j by omega, List.getElem?_append_left hj]; exact hu
  have hA1 : ∀ (j : Nat) (u : Value), (hc cr)[j]? = some u → (hc cl ++ (hc cr ++ [Value.int .i64 I, Value.int .i64 N]))[0 + 32 + j]? = some u := fun j u hu => by
    have hj : j < (hc cr).length := by
      rcases Nat.lt_or_ge j (hc cr).length with h | h
      · exact h
      · rw [List.getElem?_eq_none h] at hu; cases hu
    rw [show 0 + 32 + j = (hc cl).length + j by have := hc_length cl; omega, List.getElem?_append_right (by omega), Nat.add_sub_cancel_left, List.getElem?_append_left hj]; exact hu
  have hI : (hc cl ++ (hc cr ++ [Value.int .i64 I, Value.int .i64 N]))[0 + 64]? = some (.int .i64 I) := by
    rw [List.getElem?_append_right (by rw [hc_length]; decide), List.getElem?_append_right (by rw [hc_length, hc_length]; decide), hc_length, hc_length]; rfl
  have hN : (hc cl ++ (hc cr ++ [Value.int .i64 I, Value.int .i64 N]))[0 + 65]? = some (.int .i64 N) := by
    rw [List.getElem?_append_right (by rw [hc_length]; decide), List.getElem?_append_right (by rw [hc_length, hc_length]; decide), hc_length, hc_length]; rfl
  have hCl : (hc cl ++ (hc cr ++ [Value.int .i64 I, Value.int .i64 N])).length = 66 := by rw [List.length_append, List.length_append, hc_length, hc_length]; rfl
  obtain ⟨n0, hn0⟩ : ∃ n0 : Nat, 1 + N % 4096 = (n0 : Int) := ⟨(1 + N % 4096).toNat, by omega⟩
  obtain ⟨i0, hi0⟩ : ∃ i0 : Nat, I % 4096 % (n0 : Int) = (i0 : Int) := ⟨(I % 4096 % (n0 : Int)).toNat, by have := Int.emod_nonneg (I % 4096) (show (n0 : Int) ≠ 0 by omega); omega⟩
  have hin0 : i0 < n0 := by have := Int.emod_lt_of_pos (I % 4096) (show (0 : Int) < n0 by omega); omega
  obtain ⟨sd, hsd⟩ : ∃ sd : UInt8, sd = UInt8.ofNat (I % 256).toNat := ⟨_, rfl⟩
  have hsdn : IntKind.u8.wrap I = (sd.toNat : Int) := by
    rw [wrap_u8, hsd]
    have : (I % 256).toNat < 256 := by omega
    simp only [UInt8.toNat_ofNat', Nat.mod_eq_of_lt this] <;> omega
  have hbN : bitsOf .and .i64 N 4095 = N % 4096 := bitsOf_low 12 (by decide) N hN1 hN2
  have hbI : bitsOf .and .i64 I 4095 = I % 4096 := bitsOf_low 12 (by decide) I hI1 hI2
  refine calls_of_CW (L := []) Tryd.func9 rfl (Nat.le_of_ble_eq_true rfl) (Cl.refl _) ?_
  refine CW.seq_k fun K1 hK1 => ?_
  refine CW.region ?_
  refine OW.box (cs := hc cl ++ (hc cr ++ [Value.int .i64 I, Value.int .i64 N])) rfl rfl rfl (by (conv => lhs; whnf) <;> rfl) rfl (fun b3 => ?_)
  refine OW.box rfl rfl rfl (by (conv => lhs; whnf) <;> rfl) (by rfl) (fun b5 => ?_)
  refine OW.q rfl rfl (yq_assign rfl (by (conv => lhs; whnf) <;> rfl)) ?_
  refine OW.nil ?_
  refine hK1 _ _ ?_
  refine CW.seq_k fun K2 hK2 => ?_
  refine CW.seq_k fun K3 hK3 => ?_
  refine CW.region ?_
  refine OW.q rfl rfl (yq_move rfl (by (conv => lhs; whnf) <;> rfl)) ?_
  refine OW.q rfl rfl (yq_len_slice rfl ts22 (by (conv => lhs; whnf) <;> rfl)) ?_
  refine OW.q rfl rfl (yq_gtr rfl (by (conv => lhs; whnf) <;> rfl) (by (conv => lhs; whnf) <;> rfl)) ?_
  refine OW.nil ?_
  refine hK3 _ _ ?_
  refine CW.cond_dec (by (conv => lhs; whnf) <;> rfl) (fun hc0 => ?_) (fun hc0 => ?_)
  · refine CW.seq_k fun K4 hK4 => ?_
    refine CW.region ?_
    refine OW.q rfl rfl (yq_call rfl rfl .nil en40 (fun w hw => found_calls w (Cl_gl0 hw hg))) ?_
    refine OW.q rfl rfl (yq_assign rfl (by (conv => lhs; whnf) <;> rfl)) ?_
    refine OW.nil ?_
    refine hK4 _ _ ?_
    refine CW.ret ?_
    refine then_ret ?_
    -- ret (ret)
    exact fin1 (Or.inr rfl) rfl ⟨by decide, (by (conv => lhs; whnf) <;> rfl)⟩ (fun w hw => ⟨rfl, hw.sub (List.nil_sublist _)⟩)
  · have hl80 : path.length ≤ 80 := by omega
    refine CW.skip ?_
    refine hK2 _ _ ?_
    refine CW.seq_k fun K5 hK5 => ?_
    refine CW.seq_k fun K6 hK6 => ?_
    refine CW.draw mixed (by kernel_rfl) ?_
    refine QW.q rfl rfl (yq_fieldAddr rfl (by (conv => lhs; whnf) <;> rfl) tf76_0 ti25) ?_
    refine QW.q rfl rfl ((yq_loadA (vs := hc cl) rfl (by (conv => lhs; whnf) <;> rfl) (by rw [hc_length]; exact ti25) (by repeat' first | exact List.mem_cons_self .. | apply List.mem_cons_of_mem) hA0)) ?_
    refine QW.q rfl rfl (yq_fieldAddr rfl (by (conv => lhs; whnf) <;> rfl) tf76_2 ti3) ?_
    refine QW.q rfl rfl ((yq_load1 rfl (by (conv => lhs; whnf) <;> rfl) ti3 (by repeat' first | exact List.mem_cons_self .. | apply List.mem_cons_of_mem) hI)) ?_
    refine QW.q rfl rfl (yq_fieldAddr rfl (by (conv => lhs; whnf) <;> rfl) tf76_3 ti3) ?_
    refine QW.q rfl rfl ((yq_load1 rfl (by (conv => lhs; whnf) <;> rfl) ti3 (by repeat' first | exact List.mem_cons_self .. | apply List.mem_cons_of_mem) hN)) ?_
    refine QW.q rfl rfl (yq_move rfl (by (conv => lhs; whnf) <;> rfl)) ?_
    refine QW.q rfl rfl (yq_fieldAddr rfl (by (conv => lhs; whnf) <;> rfl) tf76_1 ti25) ?_
    refine QW.q rfl rfl ((yq_loadA (vs := hc cr) rfl (by (conv => lhs; whnf) <;> rfl) (by rw [hc_length]; exact ti25) (by repeat' first | exact List.mem_cons_self .. | apply List.mem_cons_of_mem) hA1)) ?_
    refine QW.q rfl rfl (yq_call rfl rfl (.cons (by (conv => lhs; whnf) <;> rfl) ( .cons (by (conv => lhs; whnf) <;> rfl) ( .cons (by (conv => lhs; whnf) <;> rfl) ( .cons (by (conv => lhs; whnf) <;> rfl) ( .cons (by (conv => lhs; whnf) <;> rfl) .nil))))) en49 (fun w hw => check_calls (cl) (cr) (I) (N) (path) _ w (by first | omega | (simp; omega)) (hs.mono hw) (Cl_gl0 hw hg))) ?_
    refine QW.q rfl rfl (yq_fieldAddr rfl (by (conv => lhs; whnf) <;> rfl) tf76_0 ti25) ?_
    refine QW.q rfl rfl ((yq_loadA (vs := hc cl) rfl (by (conv => lhs; whnf) <;> rfl) (by rw [hc_length]; exact ti25) (by repeat' first | exact List.mem_cons_self .. | apply List.mem_cons_of_mem) hA0)) ?_
    refine QW.q rfl rfl (yq_fieldAddr rfl (by (conv => lhs; whnf) <;> rfl) tf76_2 ti3) ?_
    refine QW.q rfl rfl ((yq_load1 rfl (by (conv => lhs; whnf) <;> rfl) ti3 (by repeat' first | exact List.mem_cons_self .. | apply List.mem_cons_of_mem) hI)) ?_
    refine QW.q rfl rfl (yq_fieldAddr rfl (by (conv => lhs; whnf) <;> rfl) tf76_3 ti3) ?_
    refine QW.q rfl rfl ((yq_load1 rfl (by (conv => lhs; whnf) <;> rfl) ti3 (by repeat' first | exact List.mem_cons_self .. | apply List.mem_cons_of_mem) hN)) ?_
    refine QW.q rfl rfl (yq_move rfl (by (conv => lhs; whnf) <;> rfl)) ?_
    refine QW.q rfl rfl (yq_fieldAddr rfl (by (conv => lhs; whnf) <;> rfl) tf76_1 ti25) ?_
    refine QW.q rfl rfl ((yq_loadA (vs := hc cr) rfl (by (conv => lhs; whnf) <;> rfl) (by rw [hc_length]; exact ti25) (by repeat' first | exact List.mem_cons_self .. | apply List.mem_cons_of_mem) hA1)) ?_
    refine QW.q rfl rfl (yq_call rfl rfl (.cons (by (conv => lhs; whnf) <;> rfl) ( .cons (by (conv => lhs; whnf) <;> rfl) ( .cons (by (conv => lhs; whnf) <;> rfl) ( .cons (by (conv => lhs; whnf) <;> rfl) ( .cons (by (conv => lhs; whnf) <;> rfl) .nil))))) en50 (fun w hw => rcheck_calls (cl) (cr) (I) (N) (path) _ w (by first | omega | (simp; omega)) (hs.mono hw))) ?_
    refine QW.q rfl rfl ((yq_neq rfl (by (conv => lhs; whnf) <;> rfl) (by (conv => lhs; whnf) <;> rfl)).to (v' := .bool false) (by simp)) ?_
    refine QW.nil ?_
    refine hK6 _ _ ?_
    refine CW.cond_f (by (conv => lhs; whnf) <;> rfl) ?_
    refine CW.skip ?_
    refine hK5 _ _ ?_
    refine CW.seq_k fun K7 hK7 => ?_
    refine CW.region ?_
    refine OW.q rfl rfl (yq_fieldAddr rfl (by (conv => lhs; whnf) <;> rfl) tf76_3 ti3) ?_
    refine OW.q rfl rfl ((yq_load1 rfl (by (conv => lhs; whnf) <;> rfl) ti3 (by repeat' first | exact List.mem_cons_self .. | apply List.mem_cons_of_mem) hN)) ?_
    refine OW.q rfl rfl (yq_and_e (r := N % 4096) rfl (by (conv => lhs; whnf) <;> rfl) (by (conv => lhs; whnf) <;> rfl) hbN) ?_
    refine OW.q rfl rfl (yq_add_e (r := (n0 : Int)) rfl (by (conv => lhs; whnf) <;> rfl) (by (conv => lhs; whnf) <;> rfl) (by rw [wrap64_in (by omega)]; exact hn0)) ?_
    refine OW.q rfl rfl (yq_assign rfl (by (conv => lhs; whnf) <;> rfl)) ?_
    refine OW.nil ?_
    refine hK7 _ _ ?_
    refine CW.seq_k fun K8 hK8 => ?_
    refine CW.region ?_
    refine OW.q rfl rfl (yq_fieldAddr rfl (by (conv => lhs; whnf) <;> rfl) tf76_2 ti3) ?_
    refine OW.q rfl rfl ((yq_load1 rfl (by (conv => lhs; whnf) <;> rfl) ti3 (by repeat' first | exact List.mem_cons_self .. | apply List.mem_cons_of_mem) hI)) ?_
    refine OW.q rfl rfl (yq_and_e (r := I % 4096) rfl (by (conv => lhs; whnf) <;> rfl) (by (conv => lhs; whnf) <;> rfl) hbI) ?_
    refine OW.q rfl rfl (yq_move rfl (by (conv => lhs; whnf) <;> rfl)) ?_
    refine OW.q rfl rfl ((yq_rem rfl (by (conv => lhs; whnf) <;> rfl) (by (conv => lhs; whnf) <;> rfl) (by omega)).to (v' := .int .i64 (i0 : Int)) (by rw [hi0])) ?_
    refine OW.q rfl rfl (yq_assign rfl (by (conv => lhs; whnf) <;> rfl)) ?_
    refine OW.nil ?_
    refine hK8 _ _ ?_
    refine CW.seq_k fun K9 hK9 => ?_
    refine CW.region ?_
    refine OW.q rfl rfl (yq_move rfl (by (conv => lhs; whnf) <;> rfl)) ?_
    refine OW.q rfl rfl (yq_fieldAddr rfl (by (conv => lhs; whnf) <;> rfl) tf76_2 ti3) ?_
    refine OW.q rfl rfl ((yq_load1 rfl (by (conv => lhs; whnf) <;> rfl) ti3 (by repeat' first | exact List.mem_cons_self .. | apply List.mem_cons_of_mem) hI)) ?_
    refine OW.q rfl rfl (yq_conv_int (r := (sd.toNat : Int)) rfl Tryd.underlying3 Tryd.underlying5 (by (conv => lhs; whnf) <;> rfl) hsdn) ?_
    refine OW.calln rfl rfl rfl (by (conv => lhs; whnf) <;> rfl) (.cons (by (conv => lhs; whnf) <;> rfl) (.cons (by (conv => lhs; whnf) <;> rfl) .nil)) en26 (fun w hw => some_calls n0 sd w (by omega)) ?_
    rintro _ _ ⟨a, cap, rfl, rfl⟩
    refine OW.know _ (know_row (List.mem_cons_self ..) (by omega)) ?_
    rintro ⟨g, rfl⟩
    have hsl := someL_length sd n0
    refine OW.know (n0 ≤ cap) (fun w1 hw1 => by have := hsAt_cap (a := some ⟨g, 0, none⟩) (n := n0) (HsAt.row (l := someL sd n0) hsl.symm (hw1.own _ (List.mem_cons_self ..))); rwa [hsl] at this) ?_
    intro hcap
    refine OW.q rfl rfl (yq_assign rfl (by (conv => lhs; whnf) <;> rfl)) ?_
    refine OW.nil ?_
    refine hK9 _ _ ?_
    refine CW.seq_k fun K10 hK10 => ?_
    refine CW.seq_k fun K11 hK11 => ?_
    refine CW.region ?_
    refine OW.q rfl rfl (yq_move rfl (by (conv => lhs; whnf) <;> rfl)) ?_
    refine OW.q rfl rfl (yq_gtr rfl (by (conv => lhs; whnf) <;> rfl) (by (conv => lhs; whnf) <;> rfl)) ?_
    refine OW.nil ?_
    refine hK11 _ _ ?_
    refine CW.cutK (fun ρ L => ∃ (l : List Hash) (g off cp n i : Nat) (y : Ent), Has ρ [(1, .slice a0 path.length cap0), (3, .pointer (some ⟨b3, 0, none⟩)), (5, .pointer (some ⟨b5, 0, none⟩)), (7, .int .i64 (n : Int)), (8, .int .i64 (i : Int)), (9, .slice (some ⟨g, off, none⟩) l.length cp)] ∧ l.length = n ∧ n ≤ cp ∧ 1 ≤ n ∧ n ≤ 300 ∧ i < n ∧ (∀ (L2 : List Ent) (w1 : World), Cl w [] L2 w1 → y ∈ L2 → HsAt w1 (.slice (some ⟨g, off, none⟩) l.length cp) l) ∧ L = [y, .blk b5 (hc o) 25 (0, 0), .blk b3 (hc cl ++ (hc cr ++ [Value.int .i64 I, Value.int .i64 N])) 76 (0, 0)]) ?_ ?_
    · refine CW.cond_dec (by (conv => lhs; whnf) <;> rfl) (fun hc2 => ?_) (fun hc2 => ?_)
      · refine CW.seq_k fun K12 hK12 => ?_
        refine CW.region ?_
        refine OW.q rfl rfl (yq_move rfl (by (conv => lhs; whnf) <;> rfl)) ?_
        refine OW.q rfl rfl (yq_slice_slice (b := g) (off := 0) (len := n0) (cap := cap) (l := 0) (h := 300) rfl (by (conv => lhs; whnf) <;> rfl) ts22 ti25 rfl ⟨_, _, (by (conv => lhs; whnf) <;> rfl), by omega, by omega⟩ (by omega) (by omega)) ?_
        refine OW.q rfl rfl (yq_assign rfl (by (conv => lhs; whnf) <;> rfl)) ?_
        refine OW.nil ?_
        refine hK12 _ _ ?_
        refine CW.region ?_
        refine OW.q rfl rfl (yq_move rfl (by (conv => lhs; whnf) <;> rfl)) ?_
        refine OW.q rfl rfl ((yq_rem rfl (by (conv => lhs; whnf) <;> rfl) (by (conv => lhs; whnf) <;> rfl) (by omega)).to (v' := .int .i64 ((i0 % 300 : Nat) : Int)) (by rw [Int.natCast_emod]; rfl)) ?_
        refine OW.q rfl rfl (yq_assign rfl (by (conv => lhs; whnf) <;> rfl)) ?_
        refine OW.q rfl rfl (yq_assign rfl (by (conv => lhs; whnf) <;> rfl)) ?_
        refine OW.nil ?_
        have hlt300 : ((someL sd n0).take 300).length = 300 := by rw [List.length_take]; omega
        refine ⟨(someL sd n0).take 300, g, if cap = 0 then 0 else 0 + 0 * 32, cap - 0, 300, i0 % 300, _, Has.mk ⟨(by (conv => lhs; whnf) <;> rfl), (by (conv => lhs; whnf) <;> rfl), (by (conv => lhs; whnf) <;> rfl), (by (conv => lhs; whnf) <;> rfl), (by (conv => lhs; whnf) <;> rfl), by rw [hlt300]; exact (by (conv => lhs; whnf) <;> rfl), trivial⟩, hlt300, by omega, by decide, by decide, Nat.mod_lt _ (by decide), fun L2 w1 hw1 hm => ?_, rfl⟩
        have h1 : HsAt w1 (rowV (some g) n0 cap) (someL sd n0) := HsAt.row hsl.symm (hw1.own _ hm)
        have h2 := sliceT (b := g) (off := 0) (cap := cap) (by rw [hsl]; exact h1) 300 (by omega)
        rw [hlt300]
        exact h2
      · refine CW.skip ?_
        exact ⟨someL sd n0, g, 0, cap, n0, i0, _, Has.mk ⟨(by (conv => lhs; whnf) <;> rfl), (by (conv => lhs; whnf) <;> rfl), (by (conv => lhs; whnf) <;> rfl), (by (conv => lhs; whnf) <;> rfl), (by (conv => lhs; whnf) <;> rfl), by rw [hsl]; exact (by (conv => lhs; whnf) <;> rfl), trivial⟩, hsl, hcap, by omega, by omega, hin0, fun L2 w1 hw1 hm => by rw [hsl]; exact HsAt.row hsl.symm (hw1.own _ hm), rfl⟩
    · rintro _ _ ⟨l, g, off, cp, n, i, y, ⟨ρ', rfl⟩, hln, hcp, hn1, hn300, hin, hsR0, rfl⟩
      have hsR : ∀ {L2 : List Ent} {w1 : World}, Cl w [] L2 w1 → y ∈ L2 → HsAt w1 (.slice (some ⟨g, off, none⟩) l.length cp) l := fun h1 h2 => hsR0 _ _ h1 h2
      have hlt : i < l.length := by omega
      refine hK10 _ _ ?_
      refine CW.seq_k fun K13 hK13 => ?_
      refine CW.region ?_
      refine OW.q rfl rfl (yq_move rfl (by (conv => lhs; whnf) <;> rfl)) ?_
      refine OW.q rfl rfl (yq_move rfl (by (conv => lhs; whnf) <;> rfl)) ?_
      refine OW.calln rfl rfl rfl (by (conv => lhs; whnf) <;> rfl) (.cons (by (conv => lhs; whnf) <;> rfl) (.cons (by (conv => lhs; whnf) <;> rfl) .nil)) en42 (fun w hw => rpath_calls l _ (i : Int) w (by omega) (hsR hw (by repeat' first | exact List.mem_cons_self .. | apply List.mem_cons_of_mem)) (by omega) (by omega)) ?_
      rintro _ _ ⟨_, rfl, a1, c1, rfl, rfl⟩
      have hbad : ¬ ((i : Int) < 0 ∨ (l.length : Int) ≤ (i : Int)) := by omega
      rw [pathE_ok hbad]
      obtain ⟨p, hp⟩ : ∃ p, p = pathR l (i : Int) := ⟨_, rfl⟩
      have hpp : p = pathL l i := by rw [hp, pathR_ok hbad]
      have hp9 : p.length ≤ 9 := by rw [hpp]; exact pathL_le l i 9 (by omega)
      have hk0 : checkL (l.getD i zeroHash) (i : Int) (n : Int) p (rootL l) = 0 := by rw [hpp, ← hln]; exact check_own l i hlt (by omega)
      rw [← hp]
      refine OW.q rfl rfl (yq_move rfl (by (conv => lhs; whnf) <;> rfl)) ?_
      refine OW.q rfl rfl (yq_extract rfl (by (conv => lhs; whnf) <;> rfl) rfl) ?_
      refine OW.q rfl rfl (yq_extract rfl (by (conv => lhs; whnf) <;> rfl) rfl) ?_
      refine OW.q rfl rfl (yq_assign rfl (by (conv => lhs; whnf) <;> rfl)) ?_
      refine OW.q rfl rfl (yq_assign rfl (by (conv => lhs; whnf) <;> rfl)) ?_
      refine OW.nil ?_
      refine hK13 _ _ ?_
      refine CW.seq_k fun K14 hK14 => ?_
      refine CW.region ?_
      refine OW.q rfl rfl (yq_move rfl (by (conv => lhs; whnf) <;> rfl)) ?_
      refine OW.q rfl rfl (yq_call rfl rfl (.cons (by (conv => lhs; whnf) <;> rfl) .nil) en24 (fun w hw => root_calls _ l w (hsR hw (by repeat' first | exact List.mem_cons_self .. | apply List.mem_cons_of_mem)) (by omega) (Cl_gl0 hw hg))) ?_
      refine OW.alloc rfl rfl rfl tz25 (fun b12 => ?_)
      refine OW.storeH rfl rfl rfl (by (conv => lhs; whnf) <;> rfl) (by (conv => lhs; whnf) <;> rfl) ti25 (by repeat' first | exact Put.head | apply Put.tail) (hc_length _) ?_
      refine OW.nil ?_
      refine hK14 _ _ ?_
      refine CW.seq_k fun K15 hK15 => ?_
      refine CW.seq_k fun K16 hK16 => ?_
      refine CW.draw mixed (by kernel_rfl) ?_
      refine QW.q rfl rfl (yq_move rfl (by (conv => lhs; whnf) <;> rfl)) ?_
      refine QW.q rfl rfl (yq_move rfl (by (conv => lhs; whnf) <;> rfl)) ?_
      refine QW.q rfl rfl (yq_index_slice rfl (by (conv => lhs; whnf) <;> rfl) (by (conv => lhs; whnf) <;> rfl) ts22 ti25 (by omega) (by omega)) ?_
      refine QW.q rfl rfl (yq_load_hs (i := i) (v := l.getD i zeroHash) rfl (by (conv => lhs; whnf) <;> rfl) ti25 (fun w hw => (hsR hw (by repeat' first | exact List.mem_cons_self .. | apply List.mem_cons_of_mem))) (at_of_lt hlt)) ?_
      refine QW.q rfl rfl (yq_move rfl (by (conv => lhs; whnf) <;> rfl)) ?_
      refine QW.q rfl rfl (yq_move rfl (by (conv => lhs; whnf) <;> rfl)) ?_
      refine QW.q rfl rfl (yq_move rfl (by (conv => lhs; whnf) <;> rfl)) ?_
      refine QW.q rfl rfl (yq_loadH rfl (by (conv => lhs; whnf) <;> rfl) ti25 (by repeat' first | exact List.mem_cons_self .. | apply List.mem_cons_of_mem)) ?_
      refine QW.q rfl rfl (yq_call rfl rfl (.cons (by (conv => lhs; whnf) <;> rfl) ( .cons (by (conv => lhs; whnf) <;> rfl) ( .cons (by (conv => lhs; whnf) <;> rfl) ( .cons (by (conv => lhs; whnf) <;> rfl) ( .cons (by (conv => lhs; whnf) <;> rfl) .nil))))) en49 (fun w hw => check_calls (l.getD i zeroHash) (rootL l) ((i : Int)) ((n : Int)) (p) _ w (by first | omega | (simp; omega)) ((HsAt.row (a := a1) (cap := c1) rfl (hw.own _ (by repeat' first | exact List.mem_cons_self .. | apply List.mem_cons_of_mem)))) (Cl_gl0 hw hg))) ?_
      refine QW.q rfl rfl ((yq_neq rfl (by (conv => lhs; whnf) <;> rfl) (by (conv => lhs; whnf) <;> rfl)).to (v' := .bool false) (by rw [hk0]; simp)) ?_
      refine QW.q rfl rfl (yq_move rfl (by (conv => lhs; whnf) <;> rfl)) ?_
      refine QW.q rfl rfl (yq_fieldAddr rfl (by (conv => lhs; whnf) <;> rfl) tf76_0 ti25) ?_
      refine QW.q rfl rfl ((yq_loadA (vs := hc cl) rfl (by (conv => lhs; whnf) <;> rfl) (by rw [hc_length]; exact ti25) (by repeat' first | exact List.mem_cons_self .. | apply List.mem_cons_of_mem) hA0)) ?_
      refine QW.q rfl rfl (yq_move rfl (by (conv => lhs; whnf) <;> rfl)) ?_
      refine QW.q rfl rfl (yq_move rfl (by (conv => lhs; whnf) <;> rfl)) ?_
      refine QW.q rfl rfl (yq_move rfl (by (conv => lhs; whnf) <;> rfl)) ?_
      refine QW.q rfl rfl (yq_loadH rfl (by (conv => lhs; whnf) <;> rfl) ti25 (by repeat' first | exact List.mem_cons_self .. | apply List.mem_cons_of_mem)) ?_
      refine QW.q rfl rfl (yq_call rfl rfl (.cons (by (conv => lhs; whnf) <;> rfl) ( .cons (by (conv => lhs; whnf) <;> rfl) ( .cons (by (conv => lhs; whnf) <;> rfl) ( .cons (by (conv => lhs; whnf) <;> rfl) ( .cons (by (conv => lhs; whnf) <;> rfl) .nil))))) en49 (fun w hw => check_calls (cl) (rootL l) ((i : Int)) ((n : Int)) (p) _ w (by first | omega | (simp; omega)) ((HsAt.row (a := a1) (cap := c1) rfl (hw.own _ (by repeat' first | exact List.mem_cons_self .. | apply List.mem_cons_of_mem)))) (Cl_gl0 hw hg))) ?_
      refine QW.q rfl rfl (yq_fieldAddr rfl (by (conv => lhs; whnf) <;> rfl) tf76_0 ti25) ?_
      refine QW.q rfl rfl ((yq_loadA (vs := hc cl) rfl (by (conv => lhs; whnf) <;> rfl) (by rw [hc_length]; exact ti25) (by repeat' first | exact List.mem_cons_self .. | apply List.mem_cons_of_mem) hA0)) ?_
      refine QW.q rfl rfl (yq_move rfl (by (conv => lhs; whnf) <;> rfl)) ?_
      refine QW.q rfl rfl (yq_move rfl (by (conv => lhs; whnf) <;> rfl)) ?_
      refine QW.q rfl rfl (yq_move rfl (by (conv => lhs; whnf) <;> rfl)) ?_
      refine QW.q rfl rfl (yq_loadH rfl (by (conv => lhs; whnf) <;> rfl) ti25 (by repeat' first | exact List.mem_cons_self .. | apply List.mem_cons_of_mem)) ?_
      refine QW.q rfl rfl (yq_call rfl rfl (.cons (by (conv => lhs; whnf) <;> rfl) ( .cons (by (conv => lhs; whnf) <;> rfl) ( .cons (by (conv => lhs; whnf) <;> rfl) ( .cons (by (conv => lhs; whnf) <;> rfl) ( .cons (by (conv => lhs; whnf) <;> rfl) .nil))))) en50 (fun w hw => rcheck_calls (cl) (rootL l) ((i : Int)) ((n : Int)) (p) _ w (by first | omega | (simp; omega)) ((HsAt.row (a := a1) (cap := c1) rfl (hw.own _ (by repeat' first | exact List.mem_cons_self .. | apply List.mem_cons_of_mem)))))) ?_
      refine QW.q rfl rfl ((yq_neq rfl (by (conv => lhs; whnf) <;> rfl) (by (conv => lhs; whnf) <;> rfl)).to (v' := .bool false) (by simp)) ?_
      refine QW.q rfl rfl (yq_pick rfl (by (conv => lhs; whnf) <;> rfl) (by (conv => lhs; whnf) <;> rfl)) ?_
      refine QW.q rfl rfl (yq_move rfl (by (conv => lhs; whnf) <;> rfl)) ?_
      refine QW.q rfl rfl (yq_move rfl (by (conv => lhs; whnf) <;> rfl)) ?_
      refine QW.q rfl rfl (yq_move rfl (by (conv => lhs; whnf) <;> rfl)) ?_
      refine QW.q rfl rfl (yq_index_slice rfl (by (conv => lhs; whnf) <;> rfl) (by (conv => lhs; whnf) <;> rfl) ts22 ti25 (by omega) (by omega)) ?_
      refine QW.q rfl rfl (yq_load_hs (i := i) (v := l.getD i zeroHash) rfl (by (conv => lhs; whnf) <;> rfl) ti25 (fun w hw => (hsR hw (by repeat' first | exact List.mem_cons_self .. | apply List.mem_cons_of_mem))) (at_of_lt hlt)) ?_
      refine QW.q rfl rfl (yq_move rfl (by (conv => lhs; whnf) <;> rfl)) ?_
      refine QW.q rfl rfl (yq_move rfl (by (conv => lhs; whnf) <;> rfl)) ?_
      refine QW.q rfl rfl (yq_move rfl (by (conv => lhs; whnf) <;> rfl)) ?_
      refine QW.q rfl rfl (yq_loadH rfl (by (conv => lhs; whnf) <;> rfl) ti25 (by repeat' first | exact List.mem_cons_self .. | apply List.mem_cons_of_mem)) ?_
      refine QW.q rfl rfl (yq_call rfl rfl (.cons (by (conv => lhs; whnf) <;> rfl) ( .cons (by (conv => lhs; whnf) <;> rfl) ( .cons (by (conv => lhs; whnf) <;> rfl) ( .cons (by (conv => lhs; whnf) <;> rfl) ( .cons (by (conv => lhs; whnf) <;> rfl) .nil))))) en49 (fun w hw => check_calls (l.getD i zeroHash) (rootL l) ((i : Int)) ((n : Int)) (path) _ w (by first | omega | (simp; omega)) (hs.mono hw) (Cl_gl0 hw hg))) ?_
      refine QW.q rfl rfl (yq_move rfl (by (conv => lhs; whnf) <;> rfl)) ?_
      refine QW.q rfl rfl (yq_move rfl (by (conv => lhs; whnf) <;> rfl)) ?_
      refine QW.q rfl rfl (yq_index_slice rfl (by (conv => lhs; whnf) <;> rfl) (by (conv => lhs; whnf) <;> rfl) ts22 ti25 (by omega) (by omega)) ?_
      refine QW.q rfl rfl (yq_load_hs (i := i) (v := l.getD i zeroHash) rfl (by (conv => lhs; whnf) <;> rfl) ti25 (fun w hw => (hsR hw (by repeat' first | exact List.mem_cons_self .. | apply List.mem_cons_of_mem))) (at_of_lt hlt)) ?_
      refine QW.q rfl rfl (yq_move rfl (by (conv => lhs; whnf) <;> rfl)) ?_
      refine QW.q rfl rfl (yq_move rfl (by (conv => lhs; whnf) <;> rfl)) ?_
      refine QW.q rfl rfl (yq_move rfl (by (conv => lhs; whnf) <;> rfl)) ?_
      refine QW.q rfl rfl (yq_loadH rfl (by (conv => lhs; whnf) <;> rfl) ti25 (by repeat' first | exact List.mem_cons_self .. | apply List.mem_cons_of_mem)) ?_
      refine QW.q rfl rfl (yq_call rfl rfl (.cons (by (conv => lhs; whnf) <;> rfl) ( .cons (by (conv => lhs; whnf) <;> rfl) ( .cons (by (conv => lhs; whnf) <;> rfl) ( .cons (by (conv => lhs; whnf) <;> rfl) ( .cons (by (conv => lhs; whnf) <;> rfl) .nil))))) en50 (fun w hw => rcheck_calls (l.getD i zeroHash) (rootL l) ((i : Int)) ((n : Int)) (path) _ w (by first | omega | (simp; omega)) (hs.mono hw))) ?_
      refine QW.q rfl rfl ((yq_neq rfl (by (conv => lhs; whnf) <;> rfl) (by (conv => lhs; whnf) <;> rfl)).to (v' := .bool false) (by simp)) ?_
      refine QW.q rfl rfl (yq_pick rfl (by (conv => lhs; whnf) <;> rfl) (by (conv => lhs; whnf) <;> rfl)) ?_
      refine QW.nil ?_
      refine hK16 _ _ ?_
      refine CW.cond_f (by (conv => lhs; whnf) <;> rfl) ?_
      refine CW.skip ?_
      refine hK15 _ _ ?_
      refine CW.seq_k fun K17 hK17 => ?_
      refine CW.seq_k fun K18 hK18 => ?_
      refine CW.region ?_
      refine OW.q rfl rfl (yq_assign rfl (by (conv => lhs; whnf) <;> rfl)) ?_
      refine OW.nil ?_
      refine hK18 _ _ ?_
      refine CW.block ?_
      refine CW.loop (σ := Nat) (fun k ρ L => Has ρ [(1, .slice a0 path.length cap0), (3, .pointer (some ⟨b3, 0, none⟩)), (5, .pointer (some ⟨b5, 0, none⟩)), (7, .int .i64 (n : Int)), (8, .int .i64 (i : Int)), (9, .slice (some ⟨g, off, none⟩) l.length cp), (10, rowV a1 p.length c1), (12, .pointer (some ⟨b12, 0, none⟩)), (13, .int .i64 (k : Int))] ∧ k ≤ p.length ∧ L = [.blk b12 (hc (rootL l)) 25 (0, 0), .row a1 c1 p.length 25 32 (p.flatMap hc), y, .blk b5 (hc o) 25 (0, 0), .blk b3 (hc cl ++ (hc cr ++ [Value.int .i64 I, Value.int .i64 N])) 76 (0, 0)]) (fun k => p.length - k) (0) ?_ ?_
      · exact ⟨Has.mk ⟨(by (conv => lhs; whnf) <;> rfl), (by (conv => lhs; whnf) <;> rfl), (by (conv => lhs; whnf) <;> rfl), (by (conv => lhs; whnf) <;> rfl), (by (conv => lhs; whnf) <;> rfl), (by (conv => lhs; whnf) <;> rfl), (by (conv => lhs; whnf) <;> rfl), (by (conv => lhs; whnf) <;> rfl), (by (conv => lhs; whnf) <;> rfl), trivial⟩, Nat.zero_le _, rfl⟩
      · rintro k _ _ ⟨⟨ρ', rfl⟩, hk, rfl⟩
        refine CW.seq_k fun K19 hK19 => ?_
        refine CW.seq_k fun K20 hK20 => ?_
        refine CW.region ?_
        refine OW.q rfl rfl (yq_move rfl (by (conv => lhs; whnf) <;> rfl)) ?_
        refine OW.q rfl rfl (yq_move rfl (by (conv => lhs; whnf) <;> rfl)) ?_
        refine OW.q rfl rfl (yq_len_slice rfl ts22 (by (conv => lhs; whnf) <;> rfl)) ?_
        refine OW.q rfl rfl (yq_lss rfl (by (conv => lhs; whnf) <;> rfl) (by (conv => lhs; whnf) <;> rfl)) ?_
        refine OW.nil ?_
        refine hK20 _ _ ?_
        refine CW.cond_dec (by (conv => lhs; whnf) <;> rfl) (fun hc5 => ?_) (fun hc5 => ?_)
        · have hkl : k < p.length := by omega
          refine CW.skip ?_
          refine hK19 _ _ ?_
          refine CW.seq_k fun K21 hK21 => ?_
          refine CW.block ?_
          refine CW.seq_k fun K22 hK22 => ?_
          refine CW.region ?_
          refine OW.nilrow 25 32 ?_
          refine OW.q rfl rfl (yq_move rfl (by (conv => lhs; whnf) <;> rfl)) ?_
          refine OW.appendRow (a := none) (cap := 0) (k := 0) rfl rfl rfl (by (conv => lhs; whnf) <;> rfl) (by (conv => lhs; whnf) <;> rfl) ts22 ti25 tz25 (by repeat' first | exact Del.head | apply Del.tail) (by repeat' first | exact List.mem_cons_self .. | apply List.mem_cons_of_mem) (by intro u hu; obtain ⟨x, _, hx⟩ := List.mem_flatMap.1 hu; exact hc_one x u hx) (hc_length _) (by decide) (by simp only [maxLen]; omega) (by omega) (fun a2 c2 => ?_)
          rw [List.nil_append, show 0 + p.length = p.length from Nat.zero_add _]
          refine OW.know _ (know_row (List.mem_cons_self ..) (by omega)) ?_
          rintro ⟨g2, rfl⟩
          refine OW.q rfl rfl (yq_assign rfl (by (conv => lhs; whnf) <;> rfl)) ?_
          refine OW.nil ?_
          refine hK22 _ _ ?_
          refine CW.seq_k fun K23 hK23 => ?_
          refine CW.region ?_
          refine OW.q rfl rfl (yq_move rfl (by (conv => lhs; whnf) <;> rfl)) ?_
          refine OW.q rfl rfl (yq_move rfl (by (conv => lhs; whnf) <;> rfl)) ?_
          refine OW.q rfl rfl (yq_loadH rfl (by (conv => lhs; whnf) <;> rfl) ti25 (by repeat' first | exact List.mem_cons_self .. | apply List.mem_cons_of_mem)) ?_
          refine OW.q rfl rfl (yq_index_slice rfl (by (conv => lhs; whnf) <;> rfl) (by (conv => lhs; whnf) <;> rfl) ts22 ti25 (by omega) (by omega)) ?_
          refine OW.storeR rfl rfl rfl (by (conv => lhs; whnf) <;> rfl) (by (conv => lhs; whnf) <;> rfl) (vs := hc o) (by rw [hc_length]; exact ti25) rfl (hc_one _) .head (spl_flat0 (k := k) hkl o) (by rw [flat_length, hc_length]; omega) ?_
          refine OW.nil ?_
          refine hK23 _ _ ?_
          refine CW.seq_k fun K24 hK24 => ?_
          refine CW.draw mixed (by kernel_rfl) ?_
          refine QW.q rfl rfl (yq_move rfl (by (conv => lhs; whnf) <;> rfl)) ?_
          refine QW.q rfl rfl (yq_move rfl (by (conv => lhs; whnf) <;> rfl)) ?_
          refine QW.q rfl rfl (yq_index_slice rfl (by (conv => lhs; whnf) <;> rfl) (by (conv => lhs; whnf) <;> rfl) ts22 ti25 (by omega) (by omega)) ?_
          refine QW.q rfl rfl (yq_load_hs (i := i) (v := l.getD i zeroHash) rfl (by (conv => lhs; whnf) <;> rfl) ti25 (fun w hw => (hsR hw (by repeat' first | exact List.mem_cons_self .. | apply List.mem_cons_of_mem))) (at_of_lt hlt)) ?_
          refine QW.q rfl rfl (yq_move rfl (by (conv => lhs; whnf) <;> rfl)) ?_
          refine QW.q rfl rfl (yq_move rfl (by (conv => lhs; whnf) <;> rfl)) ?_
          refine QW.q rfl rfl (yq_move rfl (by (conv => lhs; whnf) <;> rfl)) ?_
          refine QW.q rfl rfl (yq_loadH rfl (by (conv => lhs; whnf) <;> rfl) ti25 (by repeat' first | exact List.mem_cons_self .. | apply List.mem_cons_of_mem)) ?_
          refine QW.q rfl rfl (yq_call rfl rfl (.cons (by (conv => lhs; whnf) <;> rfl) ( .cons (by (conv => lhs; whnf) <;> rfl) ( .cons (by (conv => lhs; whnf) <;> rfl) ( .cons (by (conv => lhs; whnf) <;> rfl) ( .cons (by (conv => lhs; whnf) <;> rfl) .nil))))) en49 (fun w hw => check_calls (l.getD i zeroHash) (rootL l) ((i : Int)) ((n : Int)) (p.set k o) _ w (by first | omega | (simp; omega)) ((HsAt.row (a := some g2) (cap := c2) (by simp) (hw.own _ (by repeat' first | exact List.mem_cons_self .. | apply List.mem_cons_of_mem)))) (Cl_gl0 hw hg))) ?_
          refine QW.q rfl rfl (yq_move rfl (by (conv => lhs; whnf) <;> rfl)) ?_
          refine QW.q rfl rfl (yq_move rfl (by (conv => lhs; whnf) <;> rfl)) ?_
          refine QW.q rfl rfl (yq_index_slice rfl (by (conv => lhs; whnf) <;> rfl) (by (conv => lhs; whnf) <;> rfl) ts22 ti25 (by omega) (by omega)) ?_
          refine QW.q rfl rfl (yq_load_hs (i := i) (v := l.getD i zeroHash) rfl (by (conv => lhs; whnf) <;> rfl) ti25 (fun w hw => (hsR hw (by repeat' first | exact List.mem_cons_self .. | apply List.mem_cons_of_mem))) (at_of_lt hlt)) ?_
          refine QW.q rfl rfl (yq_move rfl (by (conv => lhs; whnf) <;> rfl)) ?_
          refine QW.q rfl rfl (yq_move rfl (by (conv => lhs; whnf) <;> rfl)) ?_
          refine QW.q rfl rfl (yq_move rfl (by (conv => lhs; whnf) <;> rfl)) ?_
          refine QW.q rfl rfl (yq_loadH rfl (by (conv => lhs; whnf) <;> rfl) ti25 (by repeat' first | exact List.mem_cons_self .. | apply List.mem_cons_of_mem)) ?_
          refine QW.q rfl rfl (yq_call rfl rfl (.cons (by (conv => lhs; whnf) <;> rfl) ( .cons (by (conv => lhs; whnf) <;> rfl) ( .cons (by (conv => lhs; whnf) <;> rfl) ( .cons (by (conv => lhs; whnf) <;> rfl) ( .cons (by (conv => lhs; whnf) <;> rfl) .nil))))) en50 (fun w hw => rcheck_calls (l.getD i zeroHash) (rootL l) ((i : Int)) ((n : Int)) (p.set k o) _ w (by first | omega | (simp; omega)) ((HsAt.row (a := some g2) (cap := c2) (by simp) (hw.own _ (by repeat' first | exact List.mem_cons_self .. | apply List.mem_cons_of_mem)))))) ?_
          refine QW.q rfl rfl ((yq_neq rfl (by (conv => lhs; whnf) <;> rfl) (by (conv => lhs; whnf) <;> rfl)).to (v' := .bool false) (by simp)) ?_
          refine QW.nil ?_
          refine hK24 _ _ ?_
          refine CW.cond_f (by (conv => lhs; whnf) <;> rfl) ?_
          refine CW.skip ?_
          refine hK21 _ _ ?_
          refine CW.region ?_
          refine OW.drop (L' := [.blk b12 (hc (rootL l)) 25 (0, 0), .row a1 c1 p.length 25 32 (p.flatMap hc), y, .blk b5 (hc o) 25 (0, 0), .blk b3 (hc cl ++ (hc cr ++ [Value.int .i64 I, Value.int .i64 N])) 76 (0, 0)]) (by repeat' first | exact List.Sublist.refl _ | apply List.Sublist.cons) ?_
          refine OW.q rfl rfl (yq_move rfl (by (conv => lhs; whnf) <;> rfl)) ?_
          refine OW.q rfl rfl (yq_add rfl (by (conv => lhs; whnf) <;> rfl) (by (conv => lhs; whnf) <;> rfl) (by omega)) ?_
          refine OW.q rfl rfl (yq_assign rfl (by (conv => lhs; whnf) <;> rfl)) ?_
          refine OW.nil ?_
          exact ⟨k + 1, ⟨Has.mk ⟨(by (conv => lhs; whnf) <;> rfl), (by (conv => lhs; whnf) <;> rfl), (by (conv => lhs; whnf) <;> rfl), (by (conv => lhs; whnf) <;> rfl), (by (conv => lhs; whnf) <;> rfl), (by (conv => lhs; whnf) <;> rfl), (by (conv => lhs; whnf) <;> rfl), (by (conv => lhs; whnf) <;> rfl), (by (conv => lhs; whnf) <;> rfl), trivial⟩, by omega, rfl⟩, by omega⟩
        · refine CW.exit ?_
          refine then_exit ?_
          refine then_exit ?_
          refine blockQ_hit ?_
          refine hK17 _ _ ?_
          refine CW.seq_k fun K25 hK25 => ?_
          refine CW.region ?_
          refine OW.q rfl rfl (yq_call rfl rfl .nil en40 (fun w hw => found_calls w (Cl_gl0 hw hg))) ?_
          refine OW.q rfl rfl (yq_assign rfl (by (conv => lhs; whnf) <;> rfl)) ?_
          refine OW.nil ?_
          refine hK25 _ _ ?_
          refine CW.ret ?_
          -- ret (ret)
          exact fin1 (Or.inr rfl) rfl ⟨by decide, (by (conv => lhs; whnf) <;> rfl)⟩ (fun w hw => ⟨rfl, hw.sub (List.nil_sublist _)⟩)

end Go.Proofs.YtahdekllphehkaaDoor
