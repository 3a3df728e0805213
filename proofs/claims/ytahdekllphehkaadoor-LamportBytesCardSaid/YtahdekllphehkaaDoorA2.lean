/- Numbers as bytes, bytes as numbers; no statement of the seat is proved here. -/
import Derived.Test.YtahdekllphehkaaDoorA1
import Derived.Test.YtahdekllphehkaaDoorTy
import Derived.Test.YtahdekllphehkaaDoorL7
set_option linter.unusedVariables false
set_option linter.unusedSimpArgs false
namespace Go.Proofs.YtahdekllphehkaaDoor
open Go.WL Go.Spec

/-- The package's two tables lie as the text lays them. -/
def GL (w : World) : Prop := (∀ j u, (firstS.l.map U32)[j]? = some u → w.cell? ⟨0, j, none⟩ = some u) ∧ (∀ j u, (roundKs.map U32)[j]? = some u → w.cell? ⟨1, j, none⟩ = some u)
theorem Cl_gl {w0 w : World} {E : List Nat} {L : List Ent} (hc : Cl w0 E L w) (hg : GL w0) (h0 : 0 ∉ E) (h1 : 1 ∉ E) : GL w := by
  constructor
  · intro j u hu
    have := hg.1 j u hu
    rw [hc.cell (World.block_lt_of_cell? _ _ this) h0]; exact this
  · intro j u hu
    have := hg.2 j u hu
    rw [hc.cell (World.block_lt_of_cell? _ _ this) h1]; exact this
theorem Cl_gl0 {w0 w : World} {L : List Ent} (hc : Cl w0 [] L w) (hg : GL w0) : GL w := Cl_gl hc hg (by simp) (by simp)

theorem bget (s : ByteArray) (k : Nat) (h : k < s.size) : s[k]? = some (s.data.toList[k]'h) := by
  rw [getElem?_pos s k h]; rfl
theorem getB_snoc (l : Bytes) (k : Nat) (h : k < l.length) : getB (l.take (k + 1)) = (getB (l.take k)) <<< 8 + (l[k]).toUInt64 := by
  rw [List.take_succ_eq_append_getElem h, getB, List.foldl_append]; rfl

set_option maxRecDepth 100000 in
set_option maxHeartbeats 1000000 in
theorem get_calls (s : ByteArray) (w : World) (hs : s.size ≤ 8) :
    Calls Tryd.prog 165 #[.string s] w fun e w' => e = .returned (U64 (getB s.data.toList)) ∧ Cl w [] [] w' := by
  refine calls_of_CW (L := []) Tryd.func165 rfl (Nat.le_of_ble_eq_true rfl) (Cl.refl _) ?_
  refine CW.seq_k fun K1 hK1 => ?_
  refine CW.region ?_
  refine OW.q rfl rfl (yq_assign rfl (by (conv => lhs; whnf) <;> rfl)) ?_
  refine OW.nil ?_
  refine hK1 _ _ ?_
  refine CW.seq_k fun K2 hK2 => ?_
  refine CW.region ?_
  refine OW.q rfl rfl (yq_assign rfl (by (conv => lhs; whnf) <;> rfl)) ?_
  refine OW.nil ?_
  refine hK2 _ _ ?_
  refine CW.seq_k fun K3 hK3 => ?_
  refine CW.seq_k fun K4 hK4 => ?_
  refine CW.region ?_
  refine OW.q rfl rfl (yq_move rfl (by (conv => lhs; whnf) <;> rfl)) ?_
  refine OW.q rfl rfl (yq_len_str rfl tt9 (by (conv => lhs; whnf) <;> rfl)) ?_
  refine OW.q rfl rfl (yq_min (r := (s.size : Int)) rfl (by (conv => lhs; whnf) <;> rfl) (by (conv => lhs; whnf) <;> rfl) (by rw [if_neg (by omega)])) ?_
  refine OW.q rfl rfl (yq_move rfl (by (conv => lhs; whnf) <;> rfl)) ?_
  refine OW.nil ?_
  refine hK4 _ _ ?_
  refine CW.block ?_
  refine CW.loop (σ := Nat) (fun k ρ L => Has ρ [(0, .string s), (3, U64 (getB (s.data.toList.take k))), (7, .int .i64 (s.size : Int)), (8, .int .i64 (k : Int))] ∧ k ≤ s.size ∧ L = []) (fun k => s.size - k) (0) ?_ ?_
  · exact ⟨Has.mk ⟨rfl, rfl, rfl, rfl, trivial⟩, Nat.zero_le _, rfl⟩
  · rintro k _ _ ⟨⟨ρ', rfl⟩, hk, rfl⟩
    refine CW.seq_k fun K5 hK5 => ?_
    refine CW.region ?_
    refine OW.q rfl rfl (yq_lss rfl (by (conv => lhs; whnf) <;> rfl) (by (conv => lhs; whnf) <;> rfl)) ?_
    refine OW.nil ?_
    refine hK5 _ _ ?_
    refine CW.seq_k fun K6 hK6 => ?_
    refine CW.cond_dec (by (conv => lhs; whnf) <;> rfl) (fun hc1 => ?_) (fun hc1 => ?_)
    · have hlt : k < s.data.toList.length := by have : s.data.toList.length = s.size := rfl; omega
      refine CW.skip ?_
      refine hK6 _ _ ?_
      refine CW.seq_k fun K7 hK7 => ?_
      refine CW.block ?_
      refine CW.seq_k fun K8 hK8 => ?_
      refine CW.region ?_
      refine OW.q rfl rfl (yq_move rfl (by (conv => lhs; whnf) <;> rfl)) ?_
      refine OW.q rfl rfl (yq_assign rfl (by (conv => lhs; whnf) <;> rfl)) ?_
      refine OW.nil ?_
      refine hK8 _ _ ?_
      refine CW.region ?_
      refine OW.q rfl rfl (yq_move rfl (by (conv => lhs; whnf) <;> rfl)) ?_
      refine OW.q rfl rfl (yq_shl_u64 (s := 8) rfl (by (conv => lhs; whnf) <;> rfl) (by (conv => lhs; whnf) <;> rfl) (by decide)) ?_
      refine OW.q rfl rfl (yq_move rfl (by (conv => lhs; whnf) <;> rfl)) ?_
      refine OW.q rfl rfl (yq_move rfl (by (conv => lhs; whnf) <;> rfl)) ?_
      refine OW.q rfl rfl (yq_index_str (c := s.data.toList[k]) rfl (by (conv => lhs; whnf) <;> rfl) (by (conv => lhs; whnf) <;> rfl) tt9 (by omega) (by rw [Int.toNat_natCast]; exact bget s k hlt)) ?_
      refine OW.q rfl rfl (yq_conv_u8_u64 rfl Tryd.underlying5 Tryd.underlying147 (by (conv => lhs; whnf) <;> rfl)) ?_
      refine OW.q rfl rfl (yq_add_u64 rfl (by (conv => lhs; whnf) <;> rfl) (by (conv => lhs; whnf) <;> rfl)) ?_
      refine OW.q rfl rfl (yq_assign rfl (by (conv => lhs; whnf) <;> rfl)) ?_
      refine OW.nil ?_
      refine hK7 _ _ ?_
      refine CW.region ?_
      refine OW.q rfl rfl (yq_add rfl (by (conv => lhs; whnf) <;> rfl) (by (conv => lhs; whnf) <;> rfl) (by omega)) ?_
      refine OW.q rfl rfl (yq_move rfl (by (conv => lhs; whnf) <;> rfl)) ?_
      refine OW.nil ?_
      exact ⟨k + 1, ⟨Has.mk ⟨(by (conv => lhs; whnf) <;> rfl), by rw [getB_snoc _ _ hlt]; rfl, (by (conv => lhs; whnf) <;> rfl), (by (conv => lhs; whnf) <;> rfl), trivial⟩, hlt, rfl⟩, by have : k < s.size := hlt; omega⟩
    · refine CW.exit ?_
      refine then_exit ?_
      refine then_exit ?_
      refine blockQ_hit ?_
      refine hK3 _ _ ?_
      refine CW.seq_k fun K9 hK9 => ?_
      refine CW.region ?_
      refine OW.q rfl rfl (yq_move rfl (by (conv => lhs; whnf) <;> rfl)) ?_
      refine OW.q rfl rfl (yq_assign rfl (by (conv => lhs; whnf) <;> rfl)) ?_
      refine OW.nil ?_
      refine hK9 _ _ ?_
      refine CW.ret ?_
      -- ret (ret)
      have hke : k = s.data.toList.length := by have : s.data.toList.length = s.size := rfl; omega
      exact fin1 (Or.inr rfl) rfl ⟨by decide, (by (conv => lhs; whnf) <;> rfl)⟩ (fun w hw => ⟨by rw [hke, List.take_length], hw⟩)

theorem replicate_snoc {α : Type} (k : Nat) (a : α) : List.replicate (k + 1) a = List.replicate k a ++ [a] := List.replicate_succ'
/-- Turned so often by a byte. -/
def shr8 (n : UInt64) : Nat → UInt64
  | 0 => n
  | i + 1 => shr8 n i >>> 8
theorem shr8_succ (n : UInt64) (i : Nat) : shr8 n (i + 1) = shr8 (n >>> 8) i := by induction i with
  | zero => rfl
  | succ i ih => rw [shr8, ih]; rfl
/-- The last bytes. -/
def putT (n : UInt64) : Nat → Bytes
  | 0 => []
  | i + 1 => (shr8 n i).toUInt8 :: putT n i
theorem putT_length (n : UInt64) (i : Nat) : (putT n i).length = i := by induction i <;> simp_all [putT]
theorem putT_snoc (n : UInt64) (k : Nat) : putT n (k + 1) = putT (n >>> 8) k ++ [n.toUInt8] := by
  induction k with
  | zero => rfl
  | succ k ih => rw [putT, ih, shr8_succ]; rfl
theorem putT_eq (n : UInt64) (k : Nat) : putT n k = putB n k := by
  induction k generalizing n with
  | zero => rfl
  | succ k ih => rw [putT_snoc, ih]; rfl
theorem spl_put (n : UInt64) (k i : Nat) (h : i < k) : spl (List.replicate (k - i) (.int .u8 0) ++ bc (putT n i)) (k - 1 - i) [U8 (shr8 n i).toUInt8] = List.replicate (k - (i + 1)) (.int .u8 0) ++ bc (putT n (i + 1)) := by
  obtain ⟨m, rfl⟩ : ∃ m, k = m + 1 + i := ⟨k - 1 - i, by omega⟩
  have e1 : m + 1 + i - i = m + 1 := by omega
  have e2 : m + 1 + i - 1 - i = m := by omega
  have e3 : m + 1 + i - (i + 1) = m := by omega
  rw [e1, e2, e3, replicate_snoc]
  unfold spl
  have e4 : ((List.replicate m (Value.int .u8 0) ++ [Value.int .u8 0]) ++ bc (putT n i)).drop (m + 1) = bc (putT n i) := List.drop_left' (by simp)
  have e5 : ((List.replicate m (Value.int .u8 0) ++ [Value.int .u8 0]) ++ bc (putT n i)).take m = List.replicate m (Value.int .u8 0) := by
    rw [List.append_assoc]; exact List.take_left' (by simp)
  rw [e5]
  show _ ++ _ ++ List.drop (m + 1) _ = _
  rw [e4]
  simp [bc, putT]

set_option maxRecDepth 100000 in
set_option maxHeartbeats 1000000 in
theorem put_calls (n : UInt64) (k : Nat) (w : World) (h1 : 1 ≤ k) (h2 : k ≤ 8) :
    Calls Tryd.prog 125 #[U64 n, .int .i64 (k : Int)] w fun e w' => e = .returned (.string (bs (putB n k))) ∧ Cl w [] [] w' := by
  have hf1 : decide ((k : Int) < 1) = false := decide_eq_false (by omega)
  have hf2 : decide ((8 : Int) < (k : Int)) = false := decide_eq_false (by omega)
  refine calls_of_CW (L := []) Tryd.func125 rfl (Nat.le_of_ble_eq_true rfl) (Cl.refl _) ?_
  refine CW.seq_k fun K1 hK1 => ?_
  refine CW.region ?_
  refine OW.q rfl rfl (yq_assign rfl (by (conv => lhs; whnf) <;> rfl)) ?_
  refine OW.nil ?_
  refine hK1 _ _ ?_
  refine CW.seq_k fun K2 hK2 => ?_
  refine CW.seq_k fun K3 hK3 => ?_
  refine CW.region ?_
  refine OW.q rfl rfl (yq_move rfl (by (conv => lhs; whnf) <;> rfl)) ?_
  refine OW.q rfl rfl (yq_lss rfl (by (conv => lhs; whnf) <;> rfl) (by (conv => lhs; whnf) <;> rfl)) ?_
  rw [hf1]
  refine OW.q rfl rfl (yq_move rfl (by (conv => lhs; whnf) <;> rfl)) ?_
  refine OW.q rfl rfl (yq_move rfl (by (conv => lhs; whnf) <;> rfl)) ?_
  refine OW.q rfl rfl (yq_gtr rfl (by (conv => lhs; whnf) <;> rfl) (by (conv => lhs; whnf) <;> rfl)) ?_
  rw [hf2]
  refine OW.q rfl rfl (yq_pick rfl (by (conv => lhs; whnf) <;> rfl) (by (conv => lhs; whnf) <;> rfl)) ?_
  refine OW.nil ?_
  refine hK3 _ _ ?_
  refine CW.cond_f (by (conv => lhs; whnf) <;> rfl) ?_
  refine CW.skip ?_
  refine hK2 _ _ ?_
  refine CW.seq_k fun K4 hK4 => ?_
  refine CW.region ?_
  refine OW.q rfl rfl (yq_move rfl (by (conv => lhs; whnf) <;> rfl)) ?_
  refine OW.make rfl rfl rfl (by (conv => lhs; whnf) <;> rfl) (by (conv => lhs; whnf) <;> rfl) ts92 ti5 tz5 (by omega) (by omega) (by omega) (cs := List.replicate k (.int .u8 0)) (by rw [Nat.mul_one, Int.toNat_natCast]; exact made_one _ _) (fun b => ?_)
  refine OW.q rfl rfl (yq_assign rfl (by (conv => lhs; whnf) <;> rfl)) ?_
  refine OW.nil ?_
  refine hK4 _ _ ?_
  refine CW.seq_k fun K5 hK5 => ?_
  refine CW.seq_k fun K6 hK6 => ?_
  refine CW.region ?_
  refine OW.q rfl rfl (yq_move rfl (by (conv => lhs; whnf) <;> rfl)) ?_
  refine OW.q rfl rfl (yq_move rfl (by (conv => lhs; whnf) <;> rfl)) ?_
  refine OW.nil ?_
  refine hK6 _ _ ?_
  refine CW.block ?_
  refine CW.loop (σ := Nat) (fun i ρ L => Has ρ [(0, U64 (shr8 n i)), (1, .int .i64 (k : Int)), (5, .slice (some ⟨b, 0, none⟩) (k : Int).toNat (k : Int).toNat), (15, .int .i64 (k : Int)), (16, .int .i64 (i : Int))] ∧ i ≤ k ∧ L = [.blk b (List.replicate (k - i) (.int .u8 0) ++ bc (putT n i)) 5 (0, 0)]) (fun i => k - i) (0) ?_ ?_
  · exact ⟨Has.mk ⟨(by (conv => lhs; whnf) <;> rfl), (by (conv => lhs; whnf) <;> rfl), (by (conv => lhs; whnf) <;> rfl), (by (conv => lhs; whnf) <;> rfl), (by (conv => lhs; whnf) <;> rfl), trivial⟩, Nat.zero_le _, by simp [putT, bc]⟩
  · rintro i _ _ ⟨⟨ρ', rfl⟩, hi, rfl⟩
    refine CW.seq_k fun K7 hK7 => ?_
    refine CW.region ?_
    refine OW.q rfl rfl (yq_lss rfl (by (conv => lhs; whnf) <;> rfl) (by (conv => lhs; whnf) <;> rfl)) ?_
    refine OW.nil ?_
    refine hK7 _ _ ?_
    refine CW.seq_k fun K8 hK8 => ?_
    refine CW.cond_dec (by (conv => lhs; whnf) <;> rfl) (fun hc2 => ?_) (fun hc2 => ?_)
    · have hlt : i < k := by omega
      have eN : (((k : Int) - 1 - (i : Int)).toNat * 1) = k - 1 - i := by omega
      refine CW.skip ?_
      refine hK8 _ _ ?_
      refine CW.seq_k fun K9 hK9 => ?_
      refine CW.block ?_
      refine CW.seq_k fun K10 hK10 => ?_
      refine CW.region ?_
      refine OW.q rfl rfl (yq_move rfl (by (conv => lhs; whnf) <;> rfl)) ?_
      refine OW.q rfl rfl (yq_assign rfl (by (conv => lhs; whnf) <;> rfl)) ?_
      refine OW.nil ?_
      refine hK10 _ _ ?_
      refine CW.seq_k fun K11 hK11 => ?_
      refine CW.region ?_
      refine OW.q rfl rfl (yq_move rfl (by (conv => lhs; whnf) <;> rfl)) ?_
      refine OW.q rfl rfl (yq_move rfl (by (conv => lhs; whnf) <;> rfl)) ?_
      refine OW.q rfl rfl (yq_sub rfl (by (conv => lhs; whnf) <;> rfl) (by (conv => lhs; whnf) <;> rfl) (by omega)) ?_
      refine OW.q rfl rfl (yq_move rfl (by (conv => lhs; whnf) <;> rfl)) ?_
      refine OW.q rfl rfl (yq_sub rfl (by (conv => lhs; whnf) <;> rfl) (by (conv => lhs; whnf) <;> rfl) (by omega)) ?_
      refine OW.q rfl rfl (yq_move rfl (by (conv => lhs; whnf) <;> rfl)) ?_
      refine OW.q rfl rfl (yq_conv_u64_u8 rfl Tryd.underlying147 Tryd.underlying5 (by (conv => lhs; whnf) <;> rfl)) ?_
      refine OW.q rfl rfl (yq_index_slice rfl (by (conv => lhs; whnf) <;> rfl) (by (conv => lhs; whnf) <;> rfl) ts92 ti5 (by omega) (by omega)) ?_
      rw [eN, Nat.zero_add]
      refine OW.store rfl rfl rfl (by (conv => lhs; whnf) <;> rfl) (by (conv => lhs; whnf) <;> rfl) (vs := [U8 (shr8 n i).toUInt8]) ti5 rfl (by simp [Value.oneCell']) .head (by simp [putT_length]; omega) ?_
      refine OW.nil ?_
      refine hK11 _ _ ?_
      refine CW.region ?_
      refine OW.q rfl rfl (yq_move rfl (by (conv => lhs; whnf) <;> rfl)) ?_
      refine OW.q rfl rfl (yq_shr_u64 (s := 8) rfl (by (conv => lhs; whnf) <;> rfl) (by (conv => lhs; whnf) <;> rfl) (by decide)) ?_
      refine OW.q rfl rfl (yq_assign rfl (by (conv => lhs; whnf) <;> rfl)) ?_
      refine OW.nil ?_
      refine hK9 _ _ ?_
      refine CW.region ?_
      refine OW.q rfl rfl (yq_add rfl (by (conv => lhs; whnf) <;> rfl) (by (conv => lhs; whnf) <;> rfl) (by omega)) ?_
      refine OW.q rfl rfl (yq_move rfl (by (conv => lhs; whnf) <;> rfl)) ?_
      refine OW.nil ?_
      exact ⟨i + 1, ⟨Has.mk ⟨(by (conv => lhs; whnf) <;> rfl), (by (conv => lhs; whnf) <;> rfl), (by (conv => lhs; whnf) <;> rfl), (by (conv => lhs; whnf) <;> rfl), (by (conv => lhs; whnf) <;> rfl), trivial⟩, by omega, by rw [← spl_put n k i (by omega)]⟩, by omega⟩
    · have hik : i = k := by omega
      refine CW.exit ?_
      refine then_exit ?_
      refine then_exit ?_
      refine blockQ_hit ?_
      refine hK5 _ _ ?_
      refine CW.seq_k fun K12 hK12 => ?_
      refine CW.region ?_
      refine OW.q rfl rfl (yq_move rfl (by (conv => lhs; whnf) <;> rfl)) ?_
      refine OW.q rfl rfl (yq_conv_bytes (l := putB n k) rfl ts92 Tryd.underlying5 tt9 (by (conv => lhs; whnf) <;> rfl) (by simp [putB_length]) (fun w hw j u hu => by rw [add_mk, hw.cellAt (List.mem_cons_self ..), Nat.zero_add, hik]; simpa [putT_eq] using hu)) ?_
      refine OW.q rfl rfl (yq_assign rfl (by (conv => lhs; whnf) <;> rfl)) ?_
      refine OW.nil ?_
      refine hK12 _ _ ?_
      refine CW.ret ?_
      -- ret (ret)
      exact fin1 (Or.inr rfl) rfl ⟨by decide, (by (conv => lhs; whnf) <;> rfl)⟩ (fun w hw => ⟨rfl, hw.sub (by simp)⟩)

end Go.Proofs.YtahdekllphehkaaDoor
