/- The walk of HeadsGet; no statement of the seat is proved here. -/
import Derived.Test.YtahdekllphehkaaDoorH7h
set_option linter.unusedVariables false
set_option linter.unusedSimpArgs false
namespace Go.Proofs.YtahdekllphehkaaDoor
open Go.WL Go.Spec
theorem getR_le (t : Bytes) : (getR t).path.length ≤ 64 := by
  cases e : getS t with
  | none => rw [(getR_none e).1]; decide
  | some s =>
    rw [(getR_some e).1]
    have := (getS_iff.1 e).1.2.2.2.2.2
    omega
def strL (T : List Bytes) : List Value := T.map fun t => .string (bs t)
theorem strRow {P : Program} {w0 : World} {E : List Nat} {L : List Ent} {g cap n : Nat} {e : TypeId} {T : List Bytes} (hm : Ent.row (some g) cap n e 1 (strL T) ∈ L) (w : World) (hw : Cl w0 E L w) (i : Nat) (hi : i < T.length) : w.cell? ⟨g, 0 + (i : Int).toNat * 1, none⟩ = some (.string (bs (T.getD i []))) := by
  have := row_cells hm w hw i (.string (bs (T.getD i []))) (by unfold strL; rw [List.getElem?_map, List.getElem?_eq_getElem hi, List.getD_eq_getElem?_getD, List.getElem?_eq_getElem hi]; rfl)
  rw [add_mk] at this
  rw [Int.toNat_natCast, Nat.mul_one]
  exact this
theorem u8_wrap (m : Int) : IntKind.u8.wrap m = ((UInt8.ofNat (m % 256).toNat).toNat : Int) := by
  rw [wrap_u8, u8_nat (by omega)]
  omega
set_option maxRecDepth 100000 in
set_option maxHeartbeats 1000000 in
theorem headsGet_calls (s : Bytes) (x : Rg) (vx : Value) (A B C : Int) (w : World) (hox : x.ok) (hA1 : 0 ≤ A) (hA2 : A ≤ 65535) (hB1 : 0 ≤ B) (hB2 : B ≤ 65535) (hC1 : 0 ≤ C) (hC2 : C ≤ 65535) (hx : HsAt w vx x.path) (hg : GL w) :
    Calls Tryd.prog 14 #[.string (bs s), RgV x vx, .agg ([.int .u16 A, .int .u16 B, .int .u16 C]).toArray] w fun e w' => e = .returned (.bool true) ∧ Cl w [] [] w' := by
  have hx0 := hx
  obtain ⟨ax, cx, rfl⟩ := hx0.len
  have hxs := Rg.sig_le hox
  obtain ⟨t, ht⟩ : ∃ t, t = putR x.sg := ⟨_, rfl⟩
  have htl : t.length ≤ 16600 := by rw [ht]; exact putR_len x.sg
  refine calls_of_CW (L := []) Tryd.func14 rfl (Nat.le_of_ble_eq_true rfl) (Cl.refl _) ?_
  refine CW.seq_k fun K1 hK1 => ?_
  refine CW.region ?_
  refine OW.box (cs := rgC x (.slice ax x.path.length cx)) rfl rfl rfl (by (conv => lhs; whnf) <;> rfl) rfl (fun b4 => ?_)
  refine OW.box (cs := [.int .u16 A, .int .u16 B, .int .u16 C]) rfl rfl rfl (by (conv => lhs; whnf) <;> rfl) rfl (fun b5 => ?_)
  refine OW.q rfl rfl (yq_assign rfl (by (conv => lhs; whnf) <;> rfl)) ?_
  refine OW.nil ?_
  refine hK1 _ _ ?_
  refine CW.seq_k fun K2 hK2 => ?_
  refine CW.seq_k fun K3 hK3 => ?_
  refine CW.region ?_
  refine OW.q rfl rfl (yq_move rfl (by (conv => lhs; whnf) <;> rfl)) ?_
  refine OW.q rfl rfl (yq_len_bs rfl tt9 (by (conv => lhs; whnf) <;> rfl)) ?_
  refine OW.qb rfl rfl (yq_gtr rfl (by (conv => lhs; whnf) <;> rfl) (by (conv => lhs; whnf) <;> rfl)) (fun b19 hb19 => ?_)
  refine OW.q rfl rfl (yq_move rfl (by (conv => lhs; whnf) <;> rfl)) ?_
  apply OW.segOr 3 [21, 22] 23 hb19
  · intro hb19e
    refine QW.q (by subst hb19e; rfl) rfl (yq_loadW (cs := rgC x (.slice ax x.path.length cx)) rfl (by (conv => lhs; whnf) <;> rfl) (by rw [rgC_length]; exact ti36) (by repeat' first | exact List.mem_cons_self .. | apply List.mem_cons_of_mem)) ?_
    refine QW.qb (by subst hb19e; rfl) rfl (yq_call rfl rfl (.cons (by (conv => lhs; whnf) <;> rfl) .nil) en62 (fun w hw => great_calls x _ w (hx.mono hw))) (fun b22 hb22 => ?_)
    refine QW.q rfl rfl (yq_pick rfl (by (conv => lhs; whnf) <;> rfl) (by subst hb19e; ((conv => lhs; whnf) <;> rfl))) ?_
    exact QW.nil (SegM.mk (any_c (any_c any_n)) (or_run hb19 hb19e hb22))
  · intro hb19e
    refine QW.skip (by subst hb19e; rfl) rfl ?_
    refine QW.skip (by subst hb19e; rfl) rfl ?_
    refine QW.q rfl rfl (yq_pick rfl (by (conv => lhs; whnf) <;> rfl) (by subst hb19e; ((conv => lhs; whnf) <;> rfl))) ?_
    exact QW.nil (SegM.mk (any_c (any_c any_n)) (or_skip hb19 hb19e))
  · intro ρ23 b23 hA hb23
    obtain ⟨x21, x22, rfl⟩ := hA
    refine OW.nil ?_
    refine hK3 _ _ ?_
    refine CW.condq (by (conv => lhs; whnf) <;> rfl) hb23 (fun hc0 => ?_) (fun hc0 => ?_)
    · refine CW.seq_k fun K4 hK4 => ?_
      refine CW.region ?_
      refine OW.q rfl rfl (yq_call rfl rfl .nil en63 (fun w hw => headed_calls w (Cl_gl0 hw hg))) ?_
      refine OW.q rfl rfl (yq_assign rfl (by (conv => lhs; whnf) <;> rfl)) ?_
      refine OW.nil ?_
      refine hK4 _ _ ?_
      refine CW.ret ?_
      refine then_ret ?_
      -- ret (ret)
      exact fin1 (Or.inr rfl) rfl ⟨by decide, (by (conv => lhs; whnf) <;> rfl)⟩ (fun w hw => ⟨rfl, hw.sub (List.nil_sublist _)⟩)
    · have hg1 : ¬ x.great := fun h => hc0 (.inr h)
      have hsl : s.length ≤ 1000 := by
        have h2 : ¬ _ := fun h => hc0 (.inl h)
        omega
      unfold Rg.great at hg1
      clear hc0
      refine CW.skip ?_
      refine hK2 _ _ ?_
      refine CW.seq_k fun K5 hK5 => ?_
      refine CW.region ?_
      refine OW.q rfl rfl (yq_loadW (cs := rgC x (.slice ax x.path.length cx)) rfl (by (conv => lhs; whnf) <;> rfl) (by rw [rgC_length]; exact ti36) (by repeat' first | exact List.mem_cons_self .. | apply List.mem_cons_of_mem)) ?_
      refine OW.q rfl rfl (yq_call rfl rfl (.cons (by (conv => lhs; whnf) <;> rfl) .nil) en65 (fun w hw => signed_calls x _ w hox (by omega) (hx.mono hw))) ?_
      refine OW.q rfl rfl ((yq_call rfl rfl (.cons (by (conv => lhs; whnf) <;> rfl) .nil) en64 (fun w hw => refput2_calls x.sg _ w (hx.mono hw))).to (v' := .tuple #[.string (bs t), .int .i64 (putE x.sg)]) (by rw [ht])) ?_
      refine OW.q rfl rfl (yq_move rfl (by (conv => lhs; whnf) <;> rfl)) ?_
      refine OW.q rfl rfl (yq_extract rfl (by (conv => lhs; whnf) <;> rfl) rfl) ?_
      refine OW.q rfl rfl (yq_extract rfl (by (conv => lhs; whnf) <;> rfl) rfl) ?_
      refine OW.q rfl rfl (yq_assign rfl (by (conv => lhs; whnf) <;> rfl)) ?_
      refine OW.q rfl rfl (yq_assign rfl (by (conv => lhs; whnf) <;> rfl)) ?_
      refine OW.nil ?_
      refine hK5 _ _ ?_
      refine CW.seq_k fun K6 hK6 => ?_
      have hm1 := Int.emod_nonneg A (show ((t.length : Int) + 1) ≠ 0 by omega)
      have hm2 := Int.emod_lt_of_pos A (show 0 < ((t.length : Int) + 1) by omega)
      obtain ⟨k, hk⟩ : ∃ k : Nat, (k : Int) = A % ((t.length : Int) + 1) := ⟨(A % ((t.length : Int) + 1)).toNat, by omega⟩
      have hkl : k ≤ t.length := by omega
      have htk : (t.take k).length ≤ 16600 := by rw [List.length_take]; omega
      have hts : (t ++ s).length ≤ 17600 := by rw [List.length_append]; omega
      refine CW.region ?_
      refine OW.q rfl rfl (yq_move rfl (by (conv => lhs; whnf) <;> rfl)) ?_
      refine OW.q rfl rfl (yq_move rfl (by (conv => lhs; whnf) <;> rfl)) ?_
      refine OW.q rfl rfl (yq_move rfl (by (conv => lhs; whnf) <;> rfl)) ?_
      refine OW.q rfl rfl (yq_move rfl (by (conv => lhs; whnf) <;> rfl)) ?_
      refine OW.q rfl rfl (yq_add_bs rfl (by (conv => lhs; whnf) <;> rfl) (by (conv => lhs; whnf) <;> rfl) (by omega)) ?_
      refine OW.q rfl rfl (yq_move rfl (by (conv => lhs; whnf) <;> rfl)) ?_
      refine OW.q rfl rfl (yq_index_arr rfl (by (conv => lhs; whnf) <;> rfl) (by (conv => lhs; whnf) <;> rfl) ta89 ti39 (by omega) (by omega)) ?_
      refine OW.q rfl rfl (yq_load1 rfl (by (conv => lhs; whnf) <;> rfl) ti39 (by repeat' first | exact List.mem_cons_self .. | apply List.mem_cons_of_mem) rfl) ?_
      refine OW.q rfl rfl (yq_conv_int (r := A) rfl Tryd.underlying39 Tryd.underlying3 (by (conv => lhs; whnf) <;> rfl) (wrap64_in (by omega))) ?_
      refine OW.q rfl rfl (yq_move rfl (by (conv => lhs; whnf) <;> rfl)) ?_
      refine OW.q rfl rfl (yq_len_bs rfl tt9 (by (conv => lhs; whnf) <;> rfl)) ?_
      refine OW.q rfl rfl (yq_add rfl (by (conv => lhs; whnf) <;> rfl) (by (conv => lhs; whnf) <;> rfl) (by omega)) ?_
      refine OW.q rfl rfl ((yq_rem rfl (by (conv => lhs; whnf) <;> rfl) (by (conv => lhs; whnf) <;> rfl) (by omega)).to (v' := .int .i64 (k : Int)) (by rw [hk])) ?_
      refine OW.q rfl rfl (yq_slice_bs_to (h := k) rfl (by (conv => lhs; whnf) <;> rfl) tt9 (by exact ⟨_, _, (by (conv => lhs; whnf) <;> rfl), by omega, by omega⟩) hkl) ?_
      refine OW.slicelit (vs := [.string (bs s), .string (bs t), .string (bs (t ++ s)), .string (bs (t.take k))]) rfl rfl rfl rfl ts62 ti9 tz9 (by decide) rfl (by decide) (by simp [Value.cells]) (by decide) (cs := strL [s, t, (t ++ s), (t.take k)]) rfl (fun bl => ?_)
      refine OW.toRow (k := 4) (size := 1) .head rfl (by decide) ?_
      refine OW.q rfl rfl (yq_assign rfl (by (conv => lhs; whnf) <;> rfl)) ?_
      refine OW.nil ?_
      refine hK6 _ _ ?_
      refine CW.seq_k fun K7 hK7 => ?_
      refine CW.seq_k fun K8 hK8 => ?_
      refine CW.region ?_
      refine OW.q rfl rfl (yq_move rfl (by (conv => lhs; whnf) <;> rfl)) ?_
      refine OW.q rfl rfl (yq_len_bs rfl tt9 (by (conv => lhs; whnf) <;> rfl)) ?_
      refine OW.q rfl rfl (yq_gtr rfl (by (conv => lhs; whnf) <;> rfl) (by (conv => lhs; whnf) <;> rfl)) ?_
      refine OW.nil ?_
      refine hK8 _ _ ?_
      refine CW.cutK (fun ρ L => ∃ (T : List Bytes) (a : Option Nat) (cap : Nat), Has ρ [(9, rowV a T.length cap)] ∧ (∀ z ∈ T, z.length ≤ 4294967296) ∧ T.length ≤ 5 ∧ L = [.row a cap T.length 9 1 (strL T)]) ?_ ?_
      · refine CW.cond_dec (by (conv => lhs; whnf) <;> rfl) (fun hc1 => ?_) (fun hc1 => ?_)
        · have hpos : 0 < t.length := by omega
          have hm3 := Int.emod_nonneg A (show (t.length : Int) ≠ 0 by omega)
          have hm4 := Int.emod_lt_of_pos A (show 0 < (t.length : Int) by omega)
          obtain ⟨k1, hk1⟩ : ∃ k : Nat, (k : Int) = A % (t.length : Int) := ⟨(A % (t.length : Int)).toNat, by omega⟩
          have hk1l : k1 < t.length := by omega
          refine CW.seq_k fun K9 hK9 => ?_
          refine CW.region ?_
          refine OW.q rfl rfl (yq_move rfl (by (conv => lhs; whnf) <;> rfl)) ?_
          refine OW.bytes_of rfl rfl rfl tt9 ts92 Tryd.underlying5 (by (conv => lhs; whnf) <;> rfl) (by unfold maxLen; omega) (fun vb xb hsb => ?_)
          refine OW.know _ (fun w hw => hsb.isSlice (by omega) (hw.own _ (List.mem_cons_self ..))) ?_
          rintro ⟨bb, cb, rfl⟩
          refine OW.q rfl rfl (yq_assign rfl (by (conv => lhs; whnf) <;> rfl)) ?_
          refine OW.nil ?_
          refine hK9 _ _ ?_
          refine CW.seq_k fun K10 hK10 => ?_
          refine CW.region ?_
          refine OW.q rfl rfl (yq_index_arr rfl (by (conv => lhs; whnf) <;> rfl) (by (conv => lhs; whnf) <;> rfl) ta89 ti39 (by omega) (by omega)) ?_
          refine OW.q rfl rfl (yq_load1 rfl (by (conv => lhs; whnf) <;> rfl) ti39 (by repeat' first | exact List.mem_cons_self .. | apply List.mem_cons_of_mem) rfl) ?_
          refine OW.q rfl rfl (yq_conv_int (r := A) rfl Tryd.underlying39 Tryd.underlying3 (by (conv => lhs; whnf) <;> rfl) (wrap64_in (by omega))) ?_
          refine OW.q rfl rfl (yq_move rfl (by (conv => lhs; whnf) <;> rfl)) ?_
          refine OW.q rfl rfl (yq_len_slice rfl ts92 (by (conv => lhs; whnf) <;> rfl)) ?_
          refine OW.q rfl rfl ((yq_rem rfl (by (conv => lhs; whnf) <;> rfl) (by (conv => lhs; whnf) <;> rfl) (by omega)).to (v' := .int .i64 (k1 : Int)) (by rw [hk1])) ?_
          refine OW.q rfl rfl (yq_assign rfl (by (conv => lhs; whnf) <;> rfl)) ?_
          refine OW.nil ?_
          refine hK10 _ _ ?_
          refine CW.seq_k fun K11 hK11 => ?_
          refine CW.seq_k fun K12 hK12 => ?_
          refine CW.region ?_
          refine OW.q rfl rfl (yq_index_arr rfl (by (conv => lhs; whnf) <;> rfl) (by (conv => lhs; whnf) <;> rfl) ta89 ti39 (by omega) (by omega)) ?_
          refine OW.q rfl rfl (yq_load1 rfl (by (conv => lhs; whnf) <;> rfl) ti39 (by repeat' first | exact List.mem_cons_self .. | apply List.mem_cons_of_mem) rfl) ?_
          refine OW.q rfl rfl (yq_rem_e (r := C % 2) rfl (by (conv => lhs; whnf) <;> rfl) (by (conv => lhs; whnf) <;> rfl) (by decide) (Int.tmod_eq_emod_of_nonneg (by omega))) ?_
          refine OW.q rfl rfl (yq_eql rfl (by (conv => lhs; whnf) <;> rfl) (by (conv => lhs; whnf) <;> rfl)) ?_
          refine OW.nil ?_
          refine hK12 _ _ ?_
          refine CW.cutK (fun ρ L => ∃ k2 : Nat, k2 < t.length ∧ Has ρ [(5, .pointer (some ⟨b5, 0, none⟩)), (9, rowV (some bl) 4 4), (10, .slice (some ⟨bb, 0, none⟩) t.length cb), (11, .int .i64 (k2 : Int))] ∧ L = [xb, .row (some bl) 4 4 9 1 (strL [s, t, (t ++ s), (t.take k)]), .blk b5 ([.int .u16 A, .int .u16 B, .int .u16 C]) 89 (0, 0), .blk b4 (rgC x (.slice ax x.path.length cx)) 36 (0, 0)]) ?_ ?_
          · refine CW.cond_dec (by (conv => lhs; whnf) <;> rfl) (fun hc2 => ?_) (fun hc2 => ?_)
            · refine CW.region ?_
              refine OW.q rfl rfl (yq_move rfl (by (conv => lhs; whnf) <;> rfl)) ?_
              refine OW.q rfl rfl ((yq_rem rfl (by (conv => lhs; whnf) <;> rfl) (by (conv => lhs; whnf) <;> rfl) (by omega)).to (v' := .int .i64 ((k1 % 60 : Nat) : Int)) (by rfl)) ?_
              refine OW.q rfl rfl (yq_assign rfl (by (conv => lhs; whnf) <;> rfl)) ?_
              refine OW.nil ?_
              exact ⟨k1 % 60, by omega, Has.mk ⟨(by (conv => lhs; whnf) <;> rfl), (by (conv => lhs; whnf) <;> rfl), (by (conv => lhs; whnf) <;> rfl), (by (conv => lhs; whnf) <;> rfl), trivial⟩, rfl⟩
            · refine CW.skip ?_
              exact ⟨k1, hk1l, Has.mk ⟨(by (conv => lhs; whnf) <;> rfl), (by (conv => lhs; whnf) <;> rfl), (by (conv => lhs; whnf) <;> rfl), (by (conv => lhs; whnf) <;> rfl), trivial⟩, rfl⟩
          · rintro _ _ ⟨k2, hk2, ⟨ρ', rfl⟩, rfl⟩
            refine hK11 _ _ ?_
            refine CW.seq_k fun K13 hK13 => ?_
            refine CW.region ?_
            refine OW.q rfl rfl (yq_move rfl (by (conv => lhs; whnf) <;> rfl)) ?_
            refine OW.q rfl rfl (yq_move rfl (by (conv => lhs; whnf) <;> rfl)) ?_
            refine OW.q rfl rfl (yq_index_arr rfl (by (conv => lhs; whnf) <;> rfl) (by (conv => lhs; whnf) <;> rfl) ta89 ti39 (by omega) (by omega)) ?_
            refine OW.q rfl rfl (yq_load1 rfl (by (conv => lhs; whnf) <;> rfl) ti39 (by repeat' first | exact List.mem_cons_self .. | apply List.mem_cons_of_mem) rfl) ?_
            refine OW.q rfl rfl (yq_conv_int (r := ((UInt8.ofNat (B % 256).toNat).toNat : Int)) rfl Tryd.underlying39 Tryd.underlying5 (by (conv => lhs; whnf) <;> rfl) (u8_wrap B)) ?_
            refine OW.q rfl rfl (yq_index_slice rfl (by (conv => lhs; whnf) <;> rfl) (by (conv => lhs; whnf) <;> rfl) ts92 ti5 (by omega) (by omega)) ?_
            refine OW.storeSl (sv := .bool true) (vs := [U8 (UInt8.ofNat (B % 256).toNat)]) (xs' := bc (t.set k2 (UInt8.ofNat (B % 256).toNat))) rfl rfl rfl (by (conv => lhs; whnf) <;> rfl) (by (conv => lhs; whnf) <;> rfl) ti5 rfl (by simp; rfl) hsb (by simp [bc]) .head (by rw [Nat.zero_add, Nat.mul_one, Int.toNat_natCast]; exact spl_set t _ _ hk2) (by simp [bc] <;> omega) (fun hsb2 => ?_)
            refine OW.nil ?_
            refine hK13 _ _ ?_
            refine CW.region ?_
            refine OW.q rfl rfl (yq_move rfl (by (conv => lhs; whnf) <;> rfl)) ?_
            refine OW.q rfl rfl (yq_move rfl (by (conv => lhs; whnf) <;> rfl)) ?_
            refine OW.q rfl rfl (yq_conv_bytes (l := (t.set k2 (UInt8.ofNat (B % 256).toNat))) rfl ts92 Tryd.underlying5 tt9 (by (conv => lhs; whnf) <;> rfl) (by simp) (fun w hw j u hu => by rw [add_mk, Nat.zero_add]; exact hsb2.at (hw.own _ (List.mem_cons_self ..)) j u hu)) ?_
            refine OW.slicelit (vs := [.string (bs (t.set k2 (UInt8.ofNat (B % 256).toNat)))]) rfl rfl rfl rfl ts62 ti9 tz9 (by decide) rfl (by decide) (by simp [Value.cells]) (by decide) (cs := [.string (bs (t.set k2 (UInt8.ofNat (B % 256).toNat)))]) rfl (fun bl2 => ?_)
            refine OW.append (news := [.string (bs (t.set k2 (UInt8.ofNat (B % 256).toNat)))]) rfl rfl rfl (by (conv => lhs; whnf) <;> rfl) (by (conv => lhs; whnf) <;> rfl) ts62 ti9 tz9 (by repeat' first | exact Del.head | apply Del.tail) (blk_cells (by repeat' first | exact List.mem_cons_self .. | apply List.mem_cons_of_mem)) rfl (by simp; rfl) rfl (by decide) (by simp only [maxLen]; omega) (by decide) (fun a3 c3 => ?_)
            refine OW.drop (L' := [.row a3 c3 5 9 1 (strL [s, t, (t ++ s), (t.take k)] ++ [.string (bs (t.set k2 (UInt8.ofNat (B % 256).toNat)))])]) (by repeat' first | exact List.Sublist.refl _ | exact List.nil_sublist _ | apply List.Sublist.cons_cons | apply List.Sublist.cons) ?_
            refine OW.q rfl rfl (yq_assign rfl (by (conv => lhs; whnf) <;> rfl)) ?_
            refine OW.nil ?_
            refine ⟨[s, t, (t ++ s), (t.take k), (t.set k2 (UInt8.ofNat (B % 256).toNat))], a3, c3, Has.mk ⟨(by (conv => lhs; whnf) <;> rfl), trivial⟩, ?_, Nat.le_of_ble_eq_true rfl, rfl⟩
            intro z hz
            simp only [List.mem_cons, List.not_mem_nil, or_false] at hz
            have hul : (t.set k2 (UInt8.ofNat (B % 256).toNat)).length = t.length := List.length_set ..
            rcases hz with rfl | rfl | rfl | rfl | rfl <;> omega
        · refine CW.drop (L' := [.row (some bl) 4 4 9 1 (strL [s, t, (t ++ s), (t.take k)])]) (by repeat' first | exact List.Sublist.refl _ | exact List.nil_sublist _ | apply List.Sublist.cons_cons | apply List.Sublist.cons) ?_
          refine CW.skip ?_
          refine ⟨[s, t, (t ++ s), (t.take k)], some bl, 4, Has.mk ⟨(by (conv => lhs; whnf) <;> rfl), trivial⟩, ?_, Nat.le_of_ble_eq_true rfl, rfl⟩
          intro z hz
          simp only [List.mem_cons, List.not_mem_nil, or_false] at hz
          rcases hz with rfl | rfl | rfl | rfl <;> omega
      · rintro _ _ ⟨T, a, cap, ⟨ρ', rfl⟩, hT, hT5, rfl⟩
        refine hK7 _ _ ?_
        refine CW.seq_k fun K14 hK14 => ?_
        refine CW.seq_k fun K15 hK15 => ?_
        refine CW.region ?_
        refine OW.q rfl rfl (yq_assign rfl (by (conv => lhs; whnf) <;> rfl)) ?_
        refine OW.nil ?_
        refine hK15 _ _ ?_
        refine CW.block ?_
        refine CW.loop (σ := Nat) (fun i ρ L => Has ρ [(9, rowV a T.length cap), (12, .int .i64 (i : Int))] ∧ i ≤ T.length ∧ L = [.row a cap T.length 9 1 (strL T)]) (fun i => T.length - i) (0) ?_ ?_
        · exact ⟨Has.mk ⟨(by (conv => lhs; whnf) <;> rfl), (by (conv => lhs; whnf) <;> rfl), trivial⟩, Nat.zero_le _, rfl⟩
        · rintro i _ _ ⟨⟨ρ', rfl⟩, hi, rfl⟩
          refine CW.seq_k fun K16 hK16 => ?_
          refine CW.seq_k fun K17 hK17 => ?_
          refine CW.region ?_
          refine OW.q rfl rfl (yq_move rfl (by (conv => lhs; whnf) <;> rfl)) ?_
          refine OW.q rfl rfl (yq_move rfl (by (conv => lhs; whnf) <;> rfl)) ?_
          refine OW.q rfl rfl (yq_len_slice rfl ts62 (by (conv => lhs; whnf) <;> rfl)) ?_
          refine OW.q rfl rfl (yq_lss rfl (by (conv => lhs; whnf) <;> rfl) (by (conv => lhs; whnf) <;> rfl)) ?_
          refine OW.nil ?_
          refine hK17 _ _ ?_
          refine CW.cond_dec (by (conv => lhs; whnf) <;> rfl) (fun hc4 => ?_) (fun hc4 => ?_)
          · have hlt : i < T.length := by omega
            have hti : (T.getD i []).length ≤ 4294967296 := by
              rw [List.getD_eq_getElem?_getD, List.getElem?_eq_getElem hlt]
              exact hT _ (List.getElem_mem hlt)
            have hpl := getR_le (T.getD i [])
            refine CW.know _ (know_row (List.mem_cons_self ..) (by omega)) ?_
            rintro ⟨g, rfl⟩
            refine CW.skip ?_
            refine hK16 _ _ ?_
            refine CW.seq_k fun K18 hK18 => ?_
            refine CW.block ?_
            refine CW.seq_k fun K19 hK19 => ?_
            refine CW.region ?_
            refine OW.q rfl rfl (yq_move rfl (by (conv => lhs; whnf) <;> rfl)) ?_
            refine OW.q rfl rfl (yq_move rfl (by (conv => lhs; whnf) <;> rfl)) ?_
            refine OW.q rfl rfl (yq_index_slice rfl (by (conv => lhs; whnf) <;> rfl) (by (conv => lhs; whnf) <;> rfl) ts62 ti9 (by omega) (by omega)) ?_
            refine OW.q rfl rfl (yq_load_c (v := .string (bs ((T.getD i [])))) rfl (by (conv => lhs; whnf) <;> rfl) (fun w hw => run_load_one ti9 (strRow (P := Tryd.prog) (by repeat' first | exact List.mem_cons_self .. | apply List.mem_cons_of_mem) w hw i hlt))) ?_
            refine OW.calln rfl rfl rfl (by (conv => lhs; whnf) <;> rfl) (.cons (by (conv => lhs; whnf) <;> rfl) .nil) en66 (fun w hw => get2_calls (T.getD i []) w (by omega)) ?_
            rintro _ _ ⟨_, rfl, _, rfl, a13, c13, rfl, rfl⟩
            refine OW.q rfl rfl (yq_move rfl (by (conv => lhs; whnf) <;> rfl)) ?_
            refine OW.q rfl rfl (yq_extract rfl (by (conv => lhs; whnf) <;> rfl) rfl) ?_
            refine OW.q rfl rfl (yq_extract rfl (by (conv => lhs; whnf) <;> rfl) rfl) ?_
            refine OW.alloc rfl rfl rfl tz46 (fun b13 => ?_)
            refine OW.store' rfl rfl rfl (by (conv => lhs; whnf) <;> rfl) (by (conv => lhs; whnf) <;> rfl) (vs := sgC (getR (T.getD i [])) (rowV a13 (getR (T.getD i [])).path.length c13)) (by rw [sgC_length]; exact ti46) rfl (sgC_one rfl) (by repeat' first | exact Put.head | apply Put.tail) (cs' := sgC (getR (T.getD i [])) (rowV a13 (getR (T.getD i [])).path.length c13)) (spl_eqlen (by first | (simp only [sgC_length]; done) | (simp only [sgC_length]; rfl))) (by simp only [sgC_length]; exact Nat.le_of_ble_eq_true rfl) ?_
            refine OW.q rfl rfl (yq_assign rfl (by (conv => lhs; whnf) <;> rfl)) ?_
            refine OW.nil ?_
            refine hK19 _ _ ?_
            refine CW.seq_k fun K20 hK20 => ?_
            refine CW.region ?_
            refine OW.q rfl rfl (yq_move rfl (by (conv => lhs; whnf) <;> rfl)) ?_
            refine OW.q rfl rfl (yq_move rfl (by (conv => lhs; whnf) <;> rfl)) ?_
            refine OW.q rfl rfl (yq_index_slice rfl (by (conv => lhs; whnf) <;> rfl) (by (conv => lhs; whnf) <;> rfl) ts62 ti9 (by omega) (by omega)) ?_
            refine OW.q rfl rfl (yq_load_c (v := .string (bs ((T.getD i [])))) rfl (by (conv => lhs; whnf) <;> rfl) (fun w hw => run_load_one ti9 (strRow (P := Tryd.prog) (by repeat' first | exact List.mem_cons_self .. | apply List.mem_cons_of_mem) w hw i hlt))) ?_
            refine OW.calln rfl rfl rfl (by (conv => lhs; whnf) <;> rfl) (.cons (by (conv => lhs; whnf) <;> rfl) .nil) en67 (fun w hw => refget2_calls (T.getD i []) w (by omega)) ?_
            rintro _ _ ⟨_, rfl, _, rfl, a15, c15, rfl, rfl⟩
            refine OW.q rfl rfl (yq_move rfl (by (conv => lhs; whnf) <;> rfl)) ?_
            refine OW.q rfl rfl (yq_extract rfl (by (conv => lhs; whnf) <;> rfl) rfl) ?_
            refine OW.q rfl rfl (yq_extract rfl (by (conv => lhs; whnf) <;> rfl) rfl) ?_
            refine OW.alloc rfl rfl rfl tz46 (fun b15 => ?_)
            refine OW.store' rfl rfl rfl (by (conv => lhs; whnf) <;> rfl) (by (conv => lhs; whnf) <;> rfl) (vs := sgC (getR (T.getD i [])) (rowV a15 (getR (T.getD i [])).path.length c15)) (by rw [sgC_length]; exact ti46) rfl (sgC_one rfl) (by repeat' first | exact Put.head | apply Put.tail) (cs' := sgC (getR (T.getD i [])) (rowV a15 (getR (T.getD i [])).path.length c15)) (spl_eqlen (by first | (simp only [sgC_length]; done) | (simp only [sgC_length]; rfl))) (by simp only [sgC_length]; exact Nat.le_of_ble_eq_true rfl) ?_
            refine OW.q rfl rfl (yq_assign rfl (by (conv => lhs; whnf) <;> rfl)) ?_
            refine OW.nil ?_
            refine hK20 _ _ ?_
            refine CW.seq_k fun K21 hK21 => ?_
            refine CW.region ?_
            refine OW.q rfl rfl (yq_loadW (cs := sgC (getR (T.getD i [])) (rowV a13 (getR (T.getD i [])).path.length c13)) rfl (by (conv => lhs; whnf) <;> rfl) (by rw [sgC_length]; exact ti46) (by repeat' first | exact List.mem_cons_self .. | apply List.mem_cons_of_mem)) ?_
            refine OW.q rfl rfl (yq_loadW (cs := sgC (getR (T.getD i [])) (rowV a15 (getR (T.getD i [])).path.length c15)) rfl (by (conv => lhs; whnf) <;> rfl) (by rw [sgC_length]; exact ti46) (by repeat' first | exact List.mem_cons_self .. | apply List.mem_cons_of_mem)) ?_
            refine OW.q rfl rfl ((yq_call rfl rfl (.cons (by (conv => lhs; whnf) <;> rfl) (.cons (by (conv => lhs; whnf) <;> rfl) .nil)) en68 (fun w hw => same3_calls (getR (T.getD i [])) (getR (T.getD i [])) _ _ w (by omega) (HsAt.row rfl (hw.own (.row a13 c13 (getR (T.getD i [])).path.length 25 32 ((getR (T.getD i [])).path.flatMap hc)) (by repeat' first | exact List.mem_cons_self .. | apply List.mem_cons_of_mem))) (HsAt.row rfl (hw.own (.row a15 c15 (getR (T.getD i [])).path.length 25 32 ((getR (T.getD i [])).path.flatMap hc)) (by repeat' first | exact List.mem_cons_self .. | apply List.mem_cons_of_mem))))).to (v' := .bool true) (by simp)) ?_
            refine OW.q rfl rfl (yq_not rfl (by (conv => lhs; whnf) <;> rfl)) ?_
            refine OW.q rfl rfl (yq_move rfl (by (conv => lhs; whnf) <;> rfl)) ?_
            refine OW.q rfl rfl (yq_move rfl (by (conv => lhs; whnf) <;> rfl)) ?_
            refine OW.q rfl rfl (yq_move rfl (by (conv => lhs; whnf) <;> rfl)) ?_
            refine OW.q rfl rfl ((yq_neq rfl (by (conv => lhs; whnf) <;> rfl) (by (conv => lhs; whnf) <;> rfl)).to (v' := .bool false) (by simp)) ?_
            refine OW.q rfl rfl (yq_pick rfl (by (conv => lhs; whnf) <;> rfl) (by (conv => lhs; whnf) <;> rfl)) ?_
            refine OW.nil ?_
            refine hK21 _ _ ?_
            refine CW.cond_f (by (conv => lhs; whnf) <;> rfl) ?_
            refine CW.skip ?_
            refine hK18 _ _ ?_
            refine CW.drop (L' := [.row (some g) cap T.length 9 1 (strL T)]) (by repeat' first | exact List.Sublist.refl _ | exact List.nil_sublist _ | apply List.Sublist.cons_cons | apply List.Sublist.cons) ?_
            refine CW.region ?_
            refine OW.q rfl rfl (yq_move rfl (by (conv => lhs; whnf) <;> rfl)) ?_
            refine OW.q rfl rfl (yq_add rfl (by (conv => lhs; whnf) <;> rfl) (by (conv => lhs; whnf) <;> rfl) (by omega)) ?_
            refine OW.q rfl rfl (yq_assign rfl (by (conv => lhs; whnf) <;> rfl)) ?_
            refine OW.nil ?_
            exact ⟨i + 1, ⟨Has.mk ⟨(by (conv => lhs; whnf) <;> rfl), (by (conv => lhs; whnf) <;> rfl), trivial⟩, by omega, rfl⟩, by omega⟩
          · refine CW.exit ?_
            refine then_exit ?_
            refine then_exit ?_
            refine blockQ_hit ?_
            refine hK14 _ _ ?_
            refine CW.seq_k fun K22 hK22 => ?_
            refine CW.region ?_
            refine OW.q rfl rfl (yq_call rfl rfl .nil en63 (fun w hw => headed_calls w (Cl_gl0 hw hg))) ?_
            refine OW.q rfl rfl (yq_assign rfl (by (conv => lhs; whnf) <;> rfl)) ?_
            refine OW.nil ?_
            refine hK22 _ _ ?_
            refine CW.ret ?_
            -- ret (ret)
            exact fin1 (Or.inr rfl) rfl ⟨by decide, (by (conv => lhs; whnf) <;> rfl)⟩ (fun w hw => ⟨rfl, hw.sub (List.nil_sublist _)⟩)
end Go.Proofs.YtahdekllphehkaaDoor
