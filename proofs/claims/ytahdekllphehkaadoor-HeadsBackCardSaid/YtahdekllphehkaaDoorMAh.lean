/- SHA-256, trees, the walks of the statements on trees; no statement of the seat is proved here. -/
import Derived.Test.YtahdekllphehkaaDoorMEh
import Derived.Test.YtahdekllphehkaaDoorMLh
set_option linter.unusedVariables false
set_option linter.unusedSimpArgs false
namespace Go.Proofs.YtahdekllphehkaaDoor
open Go.WL Go.Spec
theorem turn_bits (k : Nat) (h1 : 1 ≤ k) (h2 : k ≤ 31) : bitsOf .and .u64 (IntKind.u64.wrap (-(k : Int))) 31 = ((32 - k : Nat) : Int) := by
  have h : ∀ k : Fin 32, 1 ≤ k.val → bitsOf .and .u64 (IntKind.u64.wrap (-(k.val : Int))) 31 = ((32 - k.val : Nat) : Int) := by decide +kernel
  exact h ⟨k, by omega⟩ h1
theorem turn_back (k : Nat) (h1 : 1 ≤ k) (h2 : k ≤ 31) : IntKind.u64.wrap (32 - ((32 - k : Nat) : Int)) = (k : Int) := by
  rw [wrap_u64]; omega
set_option maxRecDepth 100000 in
set_option maxHeartbeats 1000000 in
theorem rotl_calls (x : UInt32) (k : Nat) (w : World) (h1 : 1 ≤ k) (h2 : k ≤ 31) :
    Calls Tryd.prog 166 #[U32 x, .int .i64 (-(k : Int))] w fun e w' => e = .returned (U32 (rot x k)) ∧ Cl w [] [] w' := by
  have hs : 32 - k < 32 := by omega
  have hk : k < 32 := by omega
  refine calls_of_CW (L := []) Tryd.func166 rfl (Nat.le_of_ble_eq_true rfl) (Cl.refl _) ?_
  refine CW.seq_k fun K1 hK1 => ?_
  refine CW.region ?_
  refine OW.q rfl rfl (yq_assign rfl (by (conv => lhs; whnf) <;> rfl)) ?_
  refine OW.nil ?_
  refine hK1 _ _ ?_
  refine CW.seq_k fun K2 hK2 => ?_
  refine CW.region ?_
  refine OW.q rfl rfl (yq_move rfl (by (conv => lhs; whnf) <;> rfl)) ?_
  refine OW.q rfl rfl (yq_conv_int rfl Tryd.underlying3 Tryd.underlying192 (by (conv => lhs; whnf) <;> rfl) rfl) ?_
  refine OW.q rfl rfl (yq_and_e rfl (by (conv => lhs; whnf) <;> rfl) (by (conv => lhs; whnf) <;> rfl) (turn_bits k h1 h2)) ?_
  refine OW.q rfl rfl (yq_assign rfl (by (conv => lhs; whnf) <;> rfl)) ?_
  refine OW.nil ?_
  refine hK2 _ _ ?_
  refine CW.seq_k fun K3 hK3 => ?_
  refine CW.region ?_
  refine OW.q rfl rfl (yq_move rfl (by (conv => lhs; whnf) <;> rfl)) ?_
  refine OW.q rfl rfl (yq_move rfl (by (conv => lhs; whnf) <;> rfl)) ?_
  refine OW.q rfl rfl (yq_shl_u32 (s := 32 - k) rfl (by (conv => lhs; whnf) <;> rfl) (by (conv => lhs; whnf) <;> rfl) hs) ?_
  refine OW.q rfl rfl (yq_move rfl (by (conv => lhs; whnf) <;> rfl)) ?_
  refine OW.q rfl rfl (yq_move rfl (by (conv => lhs; whnf) <;> rfl)) ?_
  refine OW.q rfl rfl (yq_sub_e rfl (by (conv => lhs; whnf) <;> rfl) (by (conv => lhs; whnf) <;> rfl) (turn_back k h1 h2)) ?_
  refine OW.q rfl rfl (yq_shr_u32 (s := k) rfl (by (conv => lhs; whnf) <;> rfl) (by (conv => lhs; whnf) <;> rfl) hk) ?_
  refine OW.q rfl rfl (yq_or_u32 rfl (by (conv => lhs; whnf) <;> rfl) (by (conv => lhs; whnf) <;> rfl)) ?_
  refine OW.q rfl rfl (yq_assign rfl (by (conv => lhs; whnf) <;> rfl)) ?_
  refine OW.nil ?_
  refine hK3 _ _ ?_
  refine CW.ret ?_
  -- ret (ret)
  exact fin1 (Or.inr rfl) rfl ⟨by decide, rfl⟩ (fun w hw => ⟨by rw [rot, UInt32.or_comm]; rfl, hw⟩)
set_option maxRecDepth 100000 in
set_option maxHeartbeats 1000000 in
theorem right_calls (x : UInt32) (k : Nat) (w : World) (h1 : 1 ≤ k) (h2 : k ≤ 31) :
    Calls Tryd.prog 159 #[U32 x, .int .i64 (k : Int)] w fun e w' => e = .returned (U32 (rot x k)) ∧ Cl w [] [] w' := by
  have e32 : (k : Int) % 32 = (k : Int) := by omega
  refine calls_of_CW (L := []) Tryd.func159 rfl (Nat.le_of_ble_eq_true rfl) (Cl.refl _) ?_
  refine CW.seq_k fun K1 hK1 => ?_
  refine CW.region ?_
  refine OW.q rfl rfl (yq_assign rfl (by (conv => lhs; whnf) <;> rfl)) ?_
  refine OW.nil ?_
  refine hK1 _ _ ?_
  refine CW.seq_k fun K2 hK2 => ?_
  refine CW.region ?_
  refine OW.q rfl rfl (yq_move rfl (by (conv => lhs; whnf) <;> rfl)) ?_
  refine OW.q rfl rfl (yq_move rfl (by (conv => lhs; whnf) <;> rfl)) ?_
  refine OW.q rfl rfl (yq_rem rfl (by (conv => lhs; whnf) <;> rfl) (by (conv => lhs; whnf) <;> rfl) (by omega)) ?_
  refine OW.q rfl rfl (yq_neg rfl (by (conv => lhs; whnf) <;> rfl) (by omega)) ?_
  refine OW.q rfl rfl (yq_call rfl rfl (.cons (by (conv => lhs; whnf) <;> rfl) ( .cons (by (conv => lhs; whnf) <;> rfl) .nil)) en166 (fun w hw => by rw [e32]; exact rotl_calls x k w h1 h2)) ?_
  refine OW.q rfl rfl (yq_assign rfl (by (conv => lhs; whnf) <;> rfl)) ?_
  refine OW.nil ?_
  refine hK2 _ _ ?_
  refine CW.ret ?_
  -- ret (ret)
  exact fin1 (Or.inr rfl) rfl ⟨by decide, rfl⟩ (fun w hw => ⟨rfl, hw⟩)
set_option maxRecDepth 100000 in
set_option maxHeartbeats 1000000 in
theorem turn_calls (x : UInt32) (k : Nat) (w : World) (h1 : 1 ≤ k) (h2 : k ≤ 31) :
    Calls Tryd.prog 148 #[U32 x, .int .u32 (k : Int)] w fun e w' => e = .returned (U32 (rot x k)) ∧ Cl w [] [] w' := by
  have hs : 32 - k < 32 := by omega
  have hk : k < 32 := by omega
  refine calls_of_CW (L := []) Tryd.func148 rfl (Nat.le_of_ble_eq_true rfl) (Cl.refl _) ?_
  refine CW.seq_k fun K1 hK1 => ?_
  refine CW.region ?_
  refine OW.q rfl rfl (yq_assign rfl (by (conv => lhs; whnf) <;> rfl)) ?_
  refine OW.nil ?_
  refine hK1 _ _ ?_
  refine CW.seq_k fun K2 hK2 => ?_
  refine CW.region ?_
  refine OW.q rfl rfl (yq_move rfl (by (conv => lhs; whnf) <;> rfl)) ?_
  refine OW.q rfl rfl (yq_move rfl (by (conv => lhs; whnf) <;> rfl)) ?_
  refine OW.q rfl rfl (yq_shr_u32 (s := k) rfl (by (conv => lhs; whnf) <;> rfl) (by (conv => lhs; whnf) <;> rfl) hk) ?_
  refine OW.q rfl rfl (yq_move rfl (by (conv => lhs; whnf) <;> rfl)) ?_
  refine OW.q rfl rfl (yq_move rfl (by (conv => lhs; whnf) <;> rfl)) ?_
  refine OW.q rfl rfl (yq_sub_e (r := ((32 - k : Nat) : Int)) rfl (by (conv => lhs; whnf) <;> rfl) (by (conv => lhs; whnf) <;> rfl) (by rw [wrap_u32]; omega)) ?_
  refine OW.q rfl rfl (yq_shl_u32 (s := 32 - k) rfl (by (conv => lhs; whnf) <;> rfl) (by (conv => lhs; whnf) <;> rfl) hs) ?_
  refine OW.q rfl rfl (yq_or_u32 rfl (by (conv => lhs; whnf) <;> rfl) (by (conv => lhs; whnf) <;> rfl)) ?_
  refine OW.q rfl rfl (yq_assign rfl (by (conv => lhs; whnf) <;> rfl)) ?_
  refine OW.nil ?_
  refine hK2 _ _ ?_
  refine CW.ret ?_
  -- ret (ret)
  exact fin1 (Or.inr rfl) rfl ⟨by decide, rfl⟩ (fun w hw => ⟨rfl, hw⟩)
end Go.Proofs.YtahdekllphehkaaDoor
namespace Go.Proofs.YtahdekllphehkaaDoor
open Go.WL Go.Spec
/-- The package's two tables lie as the text lays them. -/
def GL (w : World) : Prop := (∀ j u, (firstS.l.map U32)[j]? = some u → w.cell? ⟨0, j, none⟩ = some u) ∧ (∀ j u, (roundKs.map U32)[j]? = some u → w.cell? ⟨1, j, none⟩ = some u)
theorem Cl_gl {w0 w : World} {E : List Nat} {L : List Ent} (hc : Cl w0 E L w) (hg : GL w0) (h0 : 0 ∉ E) (h1 : 1 ∉ E) : GL w := by
  constructor
  · intro j u hu
    have := hg.1 j u hu
    rw [hc.cell (World.block_lt_of_cell? _ _ this) h0]; exact this
  · intro j u hu
    have := hg.2 j u hu
    rw [hc.cell (World.block_lt_of_cell? _ _ this) h1]; exact this
theorem Cl_gl0 {w0 w : World} {L : List Ent} (hc : Cl w0 [] L w) (hg : GL w0) : GL w := Cl_gl hc hg (by simp) (by simp)
theorem bget (s : ByteArray) (k : Nat) (h : k < s.size) : s[k]? = some (s.data.toList[k]'h) := by
  rw [getElem?_pos s k h]; rfl
theorem getB_snoc (l : Bytes) (k : Nat) (h : k < l.length) : getB (l.take (k + 1)) = (getB (l.take k)) <<< 8 + (l[k]).toUInt64 := by
  rw [List.take_succ_eq_append_getElem h, getB, List.foldl_append]; rfl
set_option maxRecDepth 100000 in
set_option maxHeartbeats 1000000 in
theorem get_calls (s : ByteArray) (w : World) (hs : s.size ≤ 8) :
    Calls Tryd.prog 165 #[.string s] w fun e w' => e = .returned (U64 (getB s.data.toList)) ∧ Cl w [] [] w' := by
  refine calls_of_CW (L := []) Tryd.func165 rfl (Nat.le_of_ble_eq_true rfl) (Cl.refl _) ?_
  refine CW.seq_k fun K1 hK1 => ?_
  refine CW.region ?_
  refine OW.q rfl rfl (yq_assign rfl (by (conv => lhs; whnf) <;> rfl)) ?_
  refine OW.nil ?_
  refine hK1 _ _ ?_
  refine CW.seq_k fun K2 hK2 => ?_
  refine CW.region ?_
  refine OW.q rfl rfl (yq_assign rfl (by (conv => lhs; whnf) <;> rfl)) ?_
  refine OW.nil ?_
  refine hK2 _ _ ?_
  refine CW.seq_k fun K3 hK3 => ?_
  refine CW.seq_k fun K4 hK4 => ?_
  refine CW.region ?_
  refine OW.q rfl rfl (yq_move rfl (by (conv => lhs; whnf) <;> rfl)) ?_
  refine OW.q rfl rfl (yq_len_str rfl tt9 (by (conv => lhs; whnf) <;> rfl)) ?_
  refine OW.q rfl rfl (yq_min (r := (s.size : Int)) rfl (by (conv => lhs; whnf) <;> rfl) (by (conv => lhs; whnf) <;> rfl) (by rw [if_neg (by omega)])) ?_
  refine OW.q rfl rfl (yq_move rfl (by (conv => lhs; whnf) <;> rfl)) ?_
  refine OW.nil ?_
  refine hK4 _ _ ?_
  refine CW.block ?_
  refine CW.loop (σ := Nat) (fun k ρ L => Has ρ [(0, .string s), (3, U64 (getB (s.data.toList.take k))), (7, .int .i64 (s.size : Int)), (8, .int .i64 (k : Int))] ∧ k ≤ s.size ∧ L = []) (fun k => s.size - k) (0) ?_ ?_
  · exact ⟨Has.mk ⟨rfl, rfl, rfl, rfl, trivial⟩, Nat.zero_le _, rfl⟩
  · rintro k _ _ ⟨⟨ρ', rfl⟩, hk, rfl⟩
    refine CW.seq_k fun K5 hK5 => ?_
    refine CW.region ?_
    refine OW.q rfl rfl (yq_lss rfl (by (conv => lhs; whnf) <;> rfl) (by (conv => lhs; whnf) <;> rfl)) ?_
    refine OW.nil ?_
    refine hK5 _ _ ?_
    refine CW.seq_k fun K6 hK6 => ?_
    refine CW.cond_dec (by (conv => lhs; whnf) <;> rfl) (fun hc1 => ?_) (fun hc1 => ?_)
    · have hlt : k < s.data.toList.length := by have : s.data.toList.length = s.size := rfl; omega
      refine CW.skip ?_
      refine hK6 _ _ ?_
      refine CW.seq_k fun K7 hK7 => ?_
      refine CW.block ?_
      refine CW.seq_k fun K8 hK8 => ?_
      refine CW.region ?_
      refine OW.q rfl rfl (yq_move rfl (by (conv => lhs; whnf) <;> rfl)) ?_
      refine OW.q rfl rfl (yq_assign rfl (by (conv => lhs; whnf) <;> rfl)) ?_
      refine OW.nil ?_
      refine hK8 _ _ ?_
      refine CW.region ?_
      refine OW.q rfl rfl (yq_move rfl (by (conv => lhs; whnf) <;> rfl)) ?_
      refine OW.q rfl rfl (yq_shl_u64 (s := 8) rfl (by (conv => lhs; whnf) <;> rfl) (by (conv => lhs; whnf) <;> rfl) (by decide)) ?_
      refine OW.q rfl rfl (yq_move rfl (by (conv => lhs; whnf) <;> rfl)) ?_
      refine OW.q rfl rfl (yq_move rfl (by (conv => lhs; whnf) <;> rfl)) ?_
      refine OW.q rfl rfl (yq_index_str (c := s.data.toList[k]) rfl (by (conv => lhs; whnf) <;> rfl) (by (conv => lhs; whnf) <;> rfl) tt9 (by omega) (by rw [Int.toNat_natCast]; exact bget s k hlt)) ?_
      refine OW.q rfl rfl (yq_conv_u8_u64 rfl Tryd.underlying5 Tryd.underlying147 (by (conv => lhs; whnf) <;> rfl)) ?_
      refine OW.q rfl rfl (yq_add_u64 rfl (by (conv => lhs; whnf) <;> rfl) (by (conv => lhs; whnf) <;> rfl)) ?_
      refine OW.q rfl rfl (yq_assign rfl (by (conv => lhs; whnf) <;> rfl)) ?_
      refine OW.nil ?_
      refine hK7 _ _ ?_
      refine CW.region ?_
      refine OW.q rfl rfl (yq_add rfl (by (conv => lhs; whnf) <;> rfl) (by (conv => lhs; whnf) <;> rfl) (by omega)) ?_
      refine OW.q rfl rfl (yq_move rfl (by (conv => lhs; whnf) <;> rfl)) ?_
      refine OW.nil ?_
      exact ⟨k + 1, ⟨Has.mk ⟨(by (conv => lhs; whnf) <;> rfl), by rw [getB_snoc _ _ hlt]; rfl, (by (conv => lhs; whnf) <;> rfl), (by (conv => lhs; whnf) <;> rfl), trivial⟩, hlt, rfl⟩, by have : k < s.size := hlt; omega⟩
    · refine CW.exit ?_
      refine then_exit ?_
      refine then_exit ?_
      refine blockQ_hit ?_
      refine hK3 _ _ ?_
      refine CW.seq_k fun K9 hK9 => ?_
      refine CW.region ?_
      refine OW.q rfl rfl (yq_move rfl (by (conv => lhs; whnf) <;> rfl)) ?_
      refine OW.q rfl rfl (yq_assign rfl (by (conv => lhs; whnf) <;> rfl)) ?_
      refine OW.nil ?_
      refine hK9 _ _ ?_
      refine CW.ret ?_
      -- ret (ret)
      have hke : k = s.data.toList.length := by have : s.data.toList.length = s.size := rfl; omega
      exact fin1 (Or.inr rfl) rfl ⟨by decide, (by (conv => lhs; whnf) <;> rfl)⟩ (fun w hw => ⟨by rw [hke, List.take_length], hw⟩)
theorem replicate_snoc {α : Type} (k : Nat) (a : α) : List.replicate (k + 1) a = List.replicate k a ++ [a] := List.replicate_succ'
/-- Turned so often by a byte. -/
def shr8 (n : UInt64) : Nat → UInt64
  | 0 => n
  | i + 1 => shr8 n i >>> 8
theorem shr8_succ (n : UInt64) (i : Nat) : shr8 n (i + 1) = shr8 (n >>> 8) i := by induction i with
  | zero => rfl
  | succ i ih => rw [shr8, ih]; rfl
/-- The last bytes. -/
def putT (n : UInt64) : Nat → Bytes
  | 0 => []
  | i + 1 => (shr8 n i).toUInt8 :: putT n i
theorem putT_length (n : UInt64) (i : Nat) : (putT n i).length = i := by induction i <;> simp_all [putT]
theorem putT_snoc (n : UInt64) (k : Nat) : putT n (k + 1) = putT (n >>> 8) k ++ [n.toUInt8] := by
  induction k with
  | zero => rfl
  | succ k ih => rw [putT, ih, shr8_succ]; rfl
theorem putT_eq (n : UInt64) (k : Nat) : putT n k = putB n k := by
  induction k generalizing n with
  | zero => rfl
  | succ k ih => rw [putT_snoc, ih]; rfl
theorem spl_put (n : UInt64) (k i : Nat) (h : i < k) : spl (List.replicate (k - i) (.int .u8 0) ++ bc (putT n i)) (k - 1 - i) [U8 (shr8 n i).toUInt8] = List.replicate (k - (i + 1)) (.int .u8 0) ++ bc (putT n (i + 1)) := by
  obtain ⟨m, rfl⟩ : ∃ m, k = m + 1 + i := ⟨k - 1 - i, by omega⟩
  have e1 : m + 1 + i - i = m + 1 := by omega
  have e2 : m + 1 + i - 1 - i = m := by omega
  have e3 : m + 1 + i - (i + 1) = m := by omega
  rw [e1, e2, e3, replicate_snoc]
  unfold spl
  have e4 : ((List.replicate m (Value.int .u8 0) ++ [Value.int .u8 0]) ++ bc (putT n i)).drop (m + 1) = bc (putT n i) := List.drop_left' (by simp)
  have e5 : ((List.replicate m (Value.int .u8 0) ++ [Value.int .u8 0]) ++ bc (putT n i)).take m = List.replicate m (Value.int .u8 0) := by
    rw [List.append_assoc]; exact List.take_left' (by simp)
  rw [e5]
  show _ ++ _ ++ List.drop (m + 1) _ = _
  rw [e4]
  simp [bc, putT]
set_option maxRecDepth 100000 in
set_option maxHeartbeats 1000000 in
theorem put_calls (n : UInt64) (k : Nat) (w : World) (h1 : 1 ≤ k) (h2 : k ≤ 8) :
    Calls Tryd.prog 125 #[U64 n, .int .i64 (k : Int)] w fun e w' => e = .returned (.string (bs (putB n k))) ∧ Cl w [] [] w' := by
  have hf1 : decide ((k : Int) < 1) = false := decide_eq_false (by omega)
  have hf2 : decide ((8 : Int) < (k : Int)) = false := decide_eq_false (by omega)
  refine calls_of_CW (L := []) Tryd.func125 rfl (Nat.le_of_ble_eq_true rfl) (Cl.refl _) ?_
  refine CW.seq_k fun K1 hK1 => ?_
  refine CW.region ?_
  refine OW.q rfl rfl (yq_assign rfl (by (conv => lhs; whnf) <;> rfl)) ?_
  refine OW.nil ?_
  refine hK1 _ _ ?_
  refine CW.seq_k fun K2 hK2 => ?_
  refine CW.seq_k fun K3 hK3 => ?_
  refine CW.region ?_
  refine OW.q rfl rfl (yq_move rfl (by (conv => lhs; whnf) <;> rfl)) ?_
  refine OW.q rfl rfl (yq_lss rfl (by (conv => lhs; whnf) <;> rfl) (by (conv => lhs; whnf) <;> rfl)) ?_
  rw [hf1]
  refine OW.q rfl rfl (yq_move rfl (by (conv => lhs; whnf) <;> rfl)) ?_
  refine OW.q rfl rfl (yq_move rfl (by (conv => lhs; whnf) <;> rfl)) ?_
  refine OW.q rfl rfl (yq_gtr rfl (by (conv => lhs; whnf) <;> rfl) (by (conv => lhs; whnf) <;> rfl)) ?_
  rw [hf2]
  refine OW.q rfl rfl (yq_pick rfl (by (conv => lhs; whnf) <;> rfl) (by (conv => lhs; whnf) <;> rfl)) ?_
  refine OW.nil ?_
  refine hK3 _ _ ?_
  refine CW.cond_f (by (conv => lhs; whnf) <;> rfl) ?_
  refine CW.skip ?_
  refine hK2 _ _ ?_
  refine CW.seq_k fun K4 hK4 => ?_
  refine CW.region ?_
  refine OW.q rfl rfl (yq_move rfl (by (conv => lhs; whnf) <;> rfl)) ?_
  refine OW.make rfl rfl rfl (by (conv => lhs; whnf) <;> rfl) (by (conv => lhs; whnf) <;> rfl) ts92 ti5 tz5 (by omega) (by omega) (by omega) (cs := List.replicate k (.int .u8 0)) (by rw [Nat.mul_one, Int.toNat_natCast]; exact made_one _ _) (fun b => ?_)
  refine OW.q rfl rfl (yq_assign rfl (by (conv => lhs; whnf) <;> rfl)) ?_
  refine OW.nil ?_
  refine hK4 _ _ ?_
  refine CW.seq_k fun K5 hK5 => ?_
  refine CW.seq_k fun K6 hK6 => ?_
  refine CW.region ?_
  refine OW.q rfl rfl (yq_move rfl (by (conv => lhs; whnf) <;> rfl)) ?_
  refine OW.q rfl rfl (yq_move rfl (by (conv => lhs; whnf) <;> rfl)) ?_
  refine OW.nil ?_
  refine hK6 _ _ ?_
  refine CW.block ?_
  refine CW.loop (σ := Nat) (fun i ρ L => Has ρ [(0, U64 (shr8 n i)), (1, .int .i64 (k : Int)), (5, .slice (some ⟨b, 0, none⟩) (k : Int).toNat (k : Int).toNat), (15, .int .i64 (k : Int)), (16, .int .i64 (i : Int))] ∧ i ≤ k ∧ L = [.blk b (List.replicate (k - i) (.int .u8 0) ++ bc (putT n i)) 5 (0, 0)]) (fun i => k - i) (0) ?_ ?_
  · exact ⟨Has.mk ⟨(by (conv => lhs; whnf) <;> rfl), (by (conv => lhs; whnf) <;> rfl), (by (conv => lhs; whnf) <;> rfl), (by (conv => lhs; whnf) <;> rfl), (by (conv => lhs; whnf) <;> rfl), trivial⟩, Nat.zero_le _, by simp [putT, bc]⟩
  · rintro i _ _ ⟨⟨ρ', rfl⟩, hi, rfl⟩
    refine CW.seq_k fun K7 hK7 => ?_
    refine CW.region ?_
    refine OW.q rfl rfl (yq_lss rfl (by (conv => lhs; whnf) <;> rfl) (by (conv => lhs; whnf) <;> rfl)) ?_
    refine OW.nil ?_
    refine hK7 _ _ ?_
    refine CW.seq_k fun K8 hK8 => ?_
    refine CW.cond_dec (by (conv => lhs; whnf) <;> rfl) (fun hc2 => ?_) (fun hc2 => ?_)
    · have hlt : i < k := by omega
      have eN : (((k : Int) - 1 - (i : Int)).toNat * 1) = k - 1 - i := by omega
      refine CW.skip ?_
      refine hK8 _ _ ?_
      refine CW.seq_k fun K9 hK9 => ?_
      refine CW.block ?_
      refine CW.seq_k fun K10 hK10 => ?_
      refine CW.region ?_
      refine OW.q rfl rfl (yq_move rfl (by (conv => lhs; whnf) <;> rfl)) ?_
      refine OW.q rfl rfl (yq_assign rfl (by (conv => lhs; whnf) <;> rfl)) ?_
      refine OW.nil ?_
      refine hK10 _ _ ?_
      refine CW.seq_k fun K11 hK11 => ?_
      refine CW.region ?_
      refine OW.q rfl rfl (yq_move rfl (by (conv => lhs; whnf) <;> rfl)) ?_
      refine OW.q rfl rfl (yq_move rfl (by (conv => lhs; whnf) <;> rfl)) ?_
      refine OW.q rfl rfl (yq_sub rfl (by (conv => lhs; whnf) <;> rfl) (by (conv => lhs; whnf) <;> rfl) (by omega)) ?_
      refine OW.q rfl rfl (yq_move rfl (by (conv => lhs; whnf) <;> rfl)) ?_
      refine OW.q rfl rfl (yq_sub rfl (by (conv => lhs; whnf) <;> rfl) (by (conv => lhs; whnf) <;> rfl) (by omega)) ?_
      refine OW.q rfl rfl (yq_move rfl (by (conv => lhs; whnf) <;> rfl)) ?_
      refine OW.q rfl rfl (yq_conv_u64_u8 rfl Tryd.underlying147 Tryd.underlying5 (by (conv => lhs; whnf) <;> rfl)) ?_
      refine OW.q rfl rfl (yq_index_slice rfl (by (conv => lhs; whnf) <;> rfl) (by (conv => lhs; whnf) <;> rfl) ts92 ti5 (by omega) (by omega)) ?_
      rw [eN, Nat.zero_add]
      refine OW.store rfl rfl rfl (by (conv => lhs; whnf) <;> rfl) (by (conv => lhs; whnf) <;> rfl) (vs := [U8 (shr8 n i).toUInt8]) ti5 rfl (by simp [Value.oneCell']) .head (by simp [putT_length]; omega) ?_
      refine OW.nil ?_
      refine hK11 _ _ ?_
      refine CW.region ?_
      refine OW.q rfl rfl (yq_move rfl (by (conv => lhs; whnf) <;> rfl)) ?_
      refine OW.q rfl rfl (yq_shr_u64 (s := 8) rfl (by (conv => lhs; whnf) <;> rfl) (by (conv => lhs; whnf) <;> rfl) (by decide)) ?_
      refine OW.q rfl rfl (yq_assign rfl (by (conv => lhs; whnf) <;> rfl)) ?_
      refine OW.nil ?_
      refine hK9 _ _ ?_
      refine CW.region ?_
      refine OW.q rfl rfl (yq_add rfl (by (conv => lhs; whnf) <;> rfl) (by (conv => lhs; whnf) <;> rfl) (by omega)) ?_
      refine OW.q rfl rfl (yq_move rfl (by (conv => lhs; whnf) <;> rfl)) ?_
      refine OW.nil ?_
      exact ⟨i + 1, ⟨Has.mk ⟨(by (conv => lhs; whnf) <;> rfl), (by (conv => lhs; whnf) <;> rfl), (by (conv => lhs; whnf) <;> rfl), (by (conv => lhs; whnf) <;> rfl), (by (conv => lhs; whnf) <;> rfl), trivial⟩, by omega, by rw [← spl_put n k i (by omega)]⟩, by omega⟩
    · have hik : i = k := by omega
      refine CW.exit ?_
      refine then_exit ?_
      refine then_exit ?_
      refine blockQ_hit ?_
      refine hK5 _ _ ?_
      refine CW.seq_k fun K12 hK12 => ?_
      refine CW.region ?_
      refine OW.q rfl rfl (yq_move rfl (by (conv => lhs; whnf) <;> rfl)) ?_
      refine OW.q rfl rfl (yq_conv_bytes (l := putB n k) rfl ts92 Tryd.underlying5 tt9 (by (conv => lhs; whnf) <;> rfl) (by simp [putB_length]) (fun w hw j u hu => by rw [add_mk, hw.cellAt (List.mem_cons_self ..), Nat.zero_add, hik]; simpa [putT_eq] using hu)) ?_
      refine OW.q rfl rfl (yq_assign rfl (by (conv => lhs; whnf) <;> rfl)) ?_
      refine OW.nil ?_
      refine hK12 _ _ ?_
      refine CW.ret ?_
      -- ret (ret)
      exact fin1 (Or.inr rfl) rfl ⟨by decide, (by (conv => lhs; whnf) <;> rfl)⟩ (fun w hw => ⟨rfl, hw.sub (by simp)⟩)
end Go.Proofs.YtahdekllphehkaaDoor
namespace Go.Proofs.YtahdekllphehkaaDoor
open Go.WL Go.Spec
theorem rv_cell {P : Program} {n : Nat} {w0 : World} {E : List Nat} {ρ : Nat → Value} {L : List Ent} {p b : Nat} {T Tb : TypeId} {fz : Nat × Nat} {cs : List Value} {y : Nat} (hp : p < n) (ha : ρ p = .pointer (some ⟨b, 0, none⟩)) (ti : tinfo P T = some (cs.length, true, y))
    (hm : Ent.blk b cs Tb fz ∈ L) : RVal P n w0 E ρ L (.cell p T) (.agg cs.toArray) :=
  ⟨hp, _, ha, fun w hw => run_load_agg ti fun j u hu => by rw [hw.cellAt hm]; simpa using hu⟩
theorem U32_one (l : List UInt32) : ∀ u ∈ l.map U32, u.oneCell' = true := by
  intro u hu
  obtain ⟨x, _, rfl⟩ := List.mem_map.1 hu
  rfl
theorem spl_all (cs vs : List Value) (h : vs.length = cs.length) : spl cs 0 vs = vs := by simp [spl, List.drop_eq_nil_of_le, h]
/-- The schedule's array behind so many words. -/
def schedA (blk : Bytes) (k : Nat) : List UInt32 := sched blk k ++ List.replicate (64 - k) 0
theorem schedA_length (blk : Bytes) (k : Nat) (h : k ≤ 64) : (schedA blk k).length = 64 := by simp [schedA, sched_length]; omega
theorem schedA_at (blk : Bytes) (k j : Nat) (h : j < k) : ((schedA blk k).map U32)[j]? = some (U32 ((sched blk k).getD j 0)) := by
  have hl := sched_length blk k
  rw [List.getElem?_map, schedA, List.getElem?_append_left (by omega)]
  simp [List.getD_eq_getElem?_getD, hl, h]
theorem schedA_spl (blk : Bytes) (k : Nat) (h : k < 64) (x : UInt32) (hx : x = nextW blk (sched blk k)) : spl ((schedA blk k).map U32) k [U32 x] = (schedA blk (k + 1)).map U32 := by
  have hl := sched_length blk k
  subst hx
  obtain ⟨m, hm⟩ : ∃ m, 64 - k = m + 1 := ⟨64 - k - 1, by omega⟩
  have hm' : 64 - (k + 1) = m := by omega
  unfold spl schedA
  rw [hm, hm', List.map_append, List.take_left' (by simp [hl]), List.replicate_succ, sched_succ]
  show _ ++ List.drop (k + 1) _ = _
  have : (List.map U32 (sched blk k) ++ List.map U32 (0 :: List.replicate m 0)).drop (k + 1) = List.map U32 (List.replicate m 0) := by
    rw [List.map_cons, List.append_cons]
    exact List.drop_left' (by simp [hl])
  rw [this]
  simp
theorem schedA_zero (blk : Bytes) : (schedA blk 0).map U32 = List.replicate 64 (.int .u32 0) := by
  unfold schedA; rw [sched_zero, List.nil_append, List.map_replicate]; rfl
attribute [irreducible] schedA
theorem spl_at {cs vs cs' : List Value} {off k : Nat} (h : off = k) (h2 : spl cs k vs = cs') : spl cs off vs = cs' := by rw [h]; exact h2
theorem extr_list (s : ByteArray) (a b : Nat) : (s.extract a b).data.toList = (s.data.toList.drop a).take (b - a) := by
  rw [ByteArray.data_extract, Array.toList_extract]
theorem extr_size (s : ByteArray) (a b : Nat) (h : b ≤ s.size) : (s.extract a b).size = b - a := by
  rw [ByteArray.size_extract]; omega
set_option maxRecDepth 100000 in
set_option maxHeartbeats 1000000 in
theorem spread_calls (s : ByteArray) (w : World) (hs : s.size = 64) :
    Calls Tryd.prog 158 #[.string s] w fun e w' => e = .returned (.agg ((sched s.data.toList 64).map U32).toArray) ∧ Cl w [] [] w' := by
  refine calls_of_CW (L := []) Tryd.func158 rfl (Nat.le_of_ble_eq_true rfl) (Cl.refl _) ?_
  refine CW.seq_k fun K1 hK1 => ?_
  refine CW.region ?_
  refine OW.alloc rfl rfl rfl tz190 (fun b => ?_)
  refine OW.nil ?_
  refine hK1 _ _ ?_
  refine CW.seq_k fun K2 hK2 => ?_
  refine CW.seq_k fun K3 hK3 => ?_
  refine CW.region ?_
  refine OW.q rfl rfl (yq_move rfl (by (conv => lhs; whnf) <;> rfl)) ?_
  refine OW.nil ?_
  refine hK3 _ _ ?_
  refine CW.block ?_
  refine CW.loop (σ := Nat) (fun k ρ L => Has ρ [(0, .string s), (2, .pointer (some ⟨b, 0, none⟩)), (6, .int .i64 (k : Int))] ∧ k ≤ 64 ∧ L = [.blk b ((schedA s.data.toList k).map U32) 190 (0, 0)]) (fun k => 64 - k) (0) ?_ ?_
  · exact ⟨Has.mk ⟨(by (conv => lhs; whnf) <;> rfl), (by (conv => lhs; whnf) <;> rfl), (by (conv => lhs; whnf) <;> rfl), trivial⟩, Nat.zero_le _, by rw [schedA_zero]⟩
  · rintro k _ _ ⟨⟨ρ', rfl⟩, hk, rfl⟩
    have eK : 0 + (k : Int).toNat * 1 = k := by omega
    have hw := sched_length s.data.toList k
    refine CW.seq_k fun K4 hK4 => ?_
    refine CW.region ?_
    refine OW.q rfl rfl (yq_lss rfl (by (conv => lhs; whnf) <;> rfl) (by (conv => lhs; whnf) <;> rfl)) ?_
    refine OW.nil ?_
    refine hK4 _ _ ?_
    refine CW.seq_k fun K5 hK5 => ?_
    refine CW.cond_dec (by (conv => lhs; whnf) <;> rfl) (fun hc1 => ?_) (fun hc1 => ?_)
    · refine CW.skip ?_
      refine hK5 _ _ ?_
      refine CW.seq_k fun K6 hK6 => ?_
      refine CW.block ?_
      refine CW.seq_k fun K7 hK7 => ?_
      refine CW.region ?_
      refine OW.q rfl rfl (yq_move rfl (by (conv => lhs; whnf) <;> rfl)) ?_
      refine OW.q rfl rfl (yq_assign rfl (by (conv => lhs; whnf) <;> rfl)) ?_
      refine OW.nil ?_
      refine hK7 _ _ ?_
      refine CW.seq_k fun K8 hK8 => ?_
      refine CW.seq_k fun K9 hK9 => ?_
      refine CW.region ?_
      refine OW.q rfl rfl (yq_move rfl (by (conv => lhs; whnf) <;> rfl)) ?_
      refine OW.q rfl rfl (yq_lss rfl (by (conv => lhs; whnf) <;> rfl) (by (conv => lhs; whnf) <;> rfl)) ?_
      refine OW.nil ?_
      refine hK9 _ _ ?_
      refine CW.cond_dec (by (conv => lhs; whnf) <;> rfl) (fun hc3 => ?_) (fun hc3 => ?_)
      · refine CW.seq_k fun K10 hK10 => ?_
        refine CW.region ?_
        refine OW.q rfl rfl (yq_move rfl (by (conv => lhs; whnf) <;> rfl)) ?_
        refine OW.q rfl rfl (yq_move rfl (by (conv => lhs; whnf) <;> rfl)) ?_
        refine OW.q rfl rfl (yq_move rfl (by (conv => lhs; whnf) <;> rfl)) ?_
        refine OW.q rfl rfl (yq_mul rfl (by (conv => lhs; whnf) <;> rfl) (by (conv => lhs; whnf) <;> rfl) (by omega)) ?_
        refine OW.q rfl rfl (yq_move rfl (by (conv => lhs; whnf) <;> rfl)) ?_
        refine OW.q rfl rfl (yq_mul rfl (by (conv => lhs; whnf) <;> rfl) (by (conv => lhs; whnf) <;> rfl) (by omega)) ?_
        refine OW.q rfl rfl (yq_add rfl (by (conv => lhs; whnf) <;> rfl) (by (conv => lhs; whnf) <;> rfl) (by omega)) ?_
        refine OW.q rfl rfl (yq_slice_str (l := 4 * k) (h := 4 * k + 4) rfl (by (conv => lhs; whnf) <;> rfl) tt9 ⟨_, _, (by (conv => lhs; whnf) <;> rfl), by omega, by omega⟩ ⟨_, _, (by (conv => lhs; whnf) <;> rfl), by omega, by omega⟩ (by omega) (by omega)) ?_
        refine OW.q rfl rfl (yq_call rfl rfl (.cons (by (conv => lhs; whnf) <;> rfl) .nil) en165 (fun w hw => get_calls _ w (by rw [extr_size _ _ _ (by omega)]; omega))) ?_
        refine OW.q rfl rfl (yq_conv_u64_u32 rfl Tryd.underlying147 Tryd.underlying187 (by (conv => lhs; whnf) <;> rfl)) ?_
        refine OW.q rfl rfl (yq_index_arr rfl (by (conv => lhs; whnf) <;> rfl) (by (conv => lhs; whnf) <;> rfl) ta190 ti187 (by omega) (by omega)) ?_
        refine OW.store1 rfl rfl rfl (by (conv => lhs; whnf) <;> rfl) (by (conv => lhs; whnf) <;> rfl) ti187 rfl (.head (L := [])) (spl_at eK (schedA_spl s.data.toList k (by omega) _ (by rw [extr_list, nextW, hw, if_pos (by omega), show 4 * k + 4 - 4 * k = 4 by omega]))) (by rw [List.length_map, schedA_length _ _ (by omega)]; omega) ?_
        refine OW.nil ?_
        refine hK10 _ _ ?_
        refine CW.exit ?_
        refine then_exit ?_
        refine blockQ_hit ?_
        refine hK6 _ _ ?_
        refine CW.region ?_
        refine OW.q rfl rfl (yq_add rfl (by (conv => lhs; whnf) <;> rfl) (by (conv => lhs; whnf) <;> rfl) (by omega)) ?_
        refine OW.q rfl rfl (yq_move rfl (by (conv => lhs; whnf) <;> rfl)) ?_
        refine OW.nil ?_
        exact ⟨k + 1, ⟨Has.mk ⟨(by (conv => lhs; whnf) <;> rfl), (by (conv => lhs; whnf) <;> rfl), (by (conv => lhs; whnf) <;> rfl), trivial⟩, by omega, rfl⟩, by omega⟩
      · refine CW.skip ?_
        refine hK8 _ _ ?_
        refine CW.seq_k fun K11 hK11 => ?_
        refine CW.draw mixed (by kernel_rfl) ?_
        refine QW.q rfl rfl (yq_move rfl (by (conv => lhs; whnf) <;> rfl)) ?_
        refine QW.q rfl rfl (yq_sub rfl (by (conv => lhs; whnf) <;> rfl) (by (conv => lhs; whnf) <;> rfl) (by omega)) ?_
        refine QW.q rfl rfl (yq_index_arr rfl (by (conv => lhs; whnf) <;> rfl) (by (conv => lhs; whnf) <;> rfl) ta190 ti187 (by omega) (by omega)) ?_
        refine QW.q rfl rfl (yq_load1 rfl (by (conv => lhs; whnf) <;> rfl) ti187 (List.mem_cons_self ..) (by rw [show 0 + ((k : Int) - 15).toNat * 1 = k - 15 by omega]; exact schedA_at _ _ _ (by omega))) ?_
        refine QW.q rfl rfl (yq_move rfl (by (conv => lhs; whnf) <;> rfl)) ?_
        refine QW.q rfl rfl (yq_sub rfl (by (conv => lhs; whnf) <;> rfl) (by (conv => lhs; whnf) <;> rfl) (by omega)) ?_
        refine QW.q rfl rfl (yq_index_arr rfl (by (conv => lhs; whnf) <;> rfl) (by (conv => lhs; whnf) <;> rfl) ta190 ti187 (by omega) (by omega)) ?_
        refine QW.q rfl rfl (yq_load1 rfl (by (conv => lhs; whnf) <;> rfl) ti187 (List.mem_cons_self ..) (by rw [show 0 + ((k : Int) - 2).toNat * 1 = k - 2 by omega]; exact schedA_at _ _ _ (by omega))) ?_
        refine QW.q rfl rfl (yq_assign rfl (by (conv => lhs; whnf) <;> rfl)) ?_
        refine QW.q rfl rfl (yq_assign rfl (by (conv => lhs; whnf) <;> rfl)) ?_
        refine QW.nil ?_
        refine hK11 _ _ ?_
        refine CW.drawT 29 mixed (by kernel_rfl) ?_
        refine QW.q rfl rfl (yq_move rfl (by (conv => lhs; whnf) <;> rfl)) ?_
        refine QW.q rfl rfl (yq_move rfl (by (conv => lhs; whnf) <;> rfl)) ?_
        refine QW.q rfl rfl (yq_sub rfl (by (conv => lhs; whnf) <;> rfl) (by (conv => lhs; whnf) <;> rfl) (by omega)) ?_
        refine QW.q rfl rfl (yq_index_arr rfl (by (conv => lhs; whnf) <;> rfl) (by (conv => lhs; whnf) <;> rfl) ta190 ti187 (by omega) (by omega)) ?_
        refine QW.q rfl rfl (yq_load1 rfl (by (conv => lhs; whnf) <;> rfl) ti187 (List.mem_cons_self ..) (by rw [show 0 + ((k : Int) - 16).toNat * 1 = k - 16 by omega]; exact schedA_at _ _ _ (by omega))) ?_
        refine QW.q rfl rfl (yq_move rfl (by (conv => lhs; whnf) <;> rfl)) ?_
        refine QW.q rfl rfl (yq_sub rfl (by (conv => lhs; whnf) <;> rfl) (by (conv => lhs; whnf) <;> rfl) (by omega)) ?_
        refine QW.q rfl rfl (yq_index_arr rfl (by (conv => lhs; whnf) <;> rfl) (by (conv => lhs; whnf) <;> rfl) ta190 ti187 (by omega) (by omega)) ?_
        refine QW.q rfl rfl (yq_load1 rfl (by (conv => lhs; whnf) <;> rfl) ti187 (List.mem_cons_self ..) (by rw [show 0 + ((k : Int) - 7).toNat * 1 = k - 7 by omega]; exact schedA_at _ _ _ (by omega))) ?_
        refine QW.q rfl rfl (yq_add_u32 rfl (by (conv => lhs; whnf) <;> rfl) (by (conv => lhs; whnf) <;> rfl)) ?_
        refine QW.q rfl rfl (yq_move rfl (by (conv => lhs; whnf) <;> rfl)) ?_
        refine QW.q rfl rfl (yq_call rfl rfl (.cons (by (conv => lhs; whnf) <;> rfl) ( .cons (by (conv => lhs; whnf) <;> rfl) .nil)) en159 (fun w hw => right_calls _ 7 w (by decide) (by decide))) ?_
        refine QW.q rfl rfl (yq_move rfl (by (conv => lhs; whnf) <;> rfl)) ?_
        refine QW.q rfl rfl (yq_call rfl rfl (.cons (by (conv => lhs; whnf) <;> rfl) ( .cons (by (conv => lhs; whnf) <;> rfl) .nil)) en159 (fun w hw => right_calls _ 18 w (by decide) (by decide))) ?_
        refine QW.q rfl rfl (yq_xor_u32 rfl (by (conv => lhs; whnf) <;> rfl) (by (conv => lhs; whnf) <;> rfl)) ?_
        refine QW.q rfl rfl (yq_move rfl (by (conv => lhs; whnf) <;> rfl)) ?_
        refine QW.q rfl rfl (yq_shr_u32 (s := 3) rfl (by (conv => lhs; whnf) <;> rfl) (by (conv => lhs; whnf) <;> rfl) (by decide)) ?_
        refine QW.q rfl rfl (yq_xor_u32 rfl (by (conv => lhs; whnf) <;> rfl) (by (conv => lhs; whnf) <;> rfl)) ?_
        refine QW.q rfl rfl (yq_add_u32 rfl (by (conv => lhs; whnf) <;> rfl) (by (conv => lhs; whnf) <;> rfl)) ?_
        refine QW.q rfl rfl (yq_move rfl (by (conv => lhs; whnf) <;> rfl)) ?_
        refine QW.q rfl rfl (yq_call rfl rfl (.cons (by (conv => lhs; whnf) <;> rfl) ( .cons (by (conv => lhs; whnf) <;> rfl) .nil)) en159 (fun w hw => right_calls _ 17 w (by decide) (by decide))) ?_
        refine QW.q rfl rfl (yq_move rfl (by (conv => lhs; whnf) <;> rfl)) ?_
        refine QW.q rfl rfl (yq_call rfl rfl (.cons (by (conv => lhs; whnf) <;> rfl) ( .cons (by (conv => lhs; whnf) <;> rfl) .nil)) en159 (fun w hw => right_calls _ 19 w (by decide) (by decide))) ?_
        refine QW.q rfl rfl (yq_xor_u32 rfl (by (conv => lhs; whnf) <;> rfl) (by (conv => lhs; whnf) <;> rfl)) ?_
        refine QW.q rfl rfl (yq_move rfl (by (conv => lhs; whnf) <;> rfl)) ?_
        refine QW.q rfl rfl (yq_shr_u32 (s := 10) rfl (by (conv => lhs; whnf) <;> rfl) (by (conv => lhs; whnf) <;> rfl) (by decide)) ?_
        refine QW.q rfl rfl (yq_xor_u32 rfl (by (conv => lhs; whnf) <;> rfl) (by (conv => lhs; whnf) <;> rfl)) ?_
        refine QW.q rfl rfl (yq_add_u32 rfl (by (conv => lhs; whnf) <;> rfl) (by (conv => lhs; whnf) <;> rfl)) ?_
        refine QW.q rfl rfl (yq_index_arr rfl (by (conv => lhs; whnf) <;> rfl) (by (conv => lhs; whnf) <;> rfl) ta190 ti187 (by omega) (by omega)) ?_
        refine QW.nil ?_
        refine OW.store1 rfl rfl rfl (by (conv => lhs; whnf) <;> rfl) (by (conv => lhs; whnf) <;> rfl) ti187 rfl (.head (L := [])) (spl_at eK (schedA_spl s.data.toList k (by omega) _ (by rw [nextW, hw, if_neg (by omega)]; rfl))) (by rw [List.length_map, schedA_length _ _ (by omega)]; omega) ?_
        refine OW.nil ?_
        refine hK6 _ _ ?_
        refine CW.region ?_
        refine OW.q rfl rfl (yq_add rfl (by (conv => lhs; whnf) <;> rfl) (by (conv => lhs; whnf) <;> rfl) (by omega)) ?_
        refine OW.q rfl rfl (yq_move rfl (by (conv => lhs; whnf) <;> rfl)) ?_
        refine OW.nil ?_
        exact ⟨k + 1, ⟨Has.mk ⟨(by (conv => lhs; whnf) <;> rfl), (by (conv => lhs; whnf) <;> rfl), (by (conv => lhs; whnf) <;> rfl), trivial⟩, by omega, rfl⟩, by omega⟩
    · have hk64 : k = 64 := by omega
      subst hk64
      refine CW.exit ?_
      refine then_exit ?_
      refine then_exit ?_
      refine blockQ_hit ?_
      refine hK2 _ _ ?_
      refine CW.seq_k fun K12 hK12 => ?_
      refine CW.region ?_
      refine OW.q rfl rfl (yq_loadW rfl (by (conv => lhs; whnf) <;> rfl) (by rw [List.length_map, schedA_length _ _ (by omega)]; exact ti190) (List.mem_cons_self ..)) ?_
      refine OW.store' rfl rfl rfl (by (conv => lhs; whnf) <;> rfl) (by (conv => lhs; whnf) <;> rfl) (vs := (schedA s.data.toList 64).map U32) (by rw [List.length_map, schedA_length _ _ (by omega)]; exact ti190) rfl (U32_one _) (.head (L := [])) (spl_all _ _ rfl) (by rw [Nat.zero_add]; exact Nat.le_refl _) ?_
      refine OW.nil ?_
      refine hK12 _ _ ?_
      refine CW.ret ?_
      -- ret (ret)
      refine fin1 (Or.inr rfl) rfl (rv_cell (by decide) (by (conv => lhs; whnf) <;> rfl) (by rw [List.length_map, schedA_length _ _ (by omega)]; exact ti190) (List.mem_cons_self ..)) (fun w hw => ⟨?_, hw.sub (by simp)⟩)
      rw [show schedA s.data.toList 64 = sched s.data.toList 64 by unfold schedA; simp]
end Go.Proofs.YtahdekllphehkaaDoor
namespace Go.Proofs.YtahdekllphehkaaDoor
open Go.WL Go.Spec
/-- Eight words as a value. -/
def V8 (v : S8) : Value := .agg (v.l.map U32).toArray
theorem l_length (v : S8) : v.l.length = 8 := rfl
/-- The first j words increased. -/
def addK (a b : List UInt32) (j : Nat) : List UInt32 := (List.zipWith (· + ·) a b).take j ++ a.drop j
theorem addK_length (a b : List UInt32) (j : Nat) (h : a.length = b.length) (hj : j ≤ a.length) : (addK a b j).length = a.length := by simp [addK]; omega
theorem addK_at (a b : List UInt32) (j : Nat) (hj : j < a.length) (h : a.length = b.length) : ((addK a b j).map U32)[j]? = some (U32 (a.getD j 0)) := by
  rw [List.getElem?_map, addK, List.getElem?_append_right (by simp; omega)]
  simp [List.getD_eq_getElem?_getD, hj, ← h, Nat.min_eq_left (Nat.le_of_lt hj)]
theorem addK_spl (a b : List UInt32) (j : Nat) (hj : j < a.length) (h : a.length = b.length) : spl ((addK a b j).map U32) j [U32 (a.getD j 0 + b.getD j 0)] = (addK a b (j + 1)).map U32 := by
  have hz : (List.zipWith (· + ·) a b).length = a.length := by simp [h]
  have e1 : ((addK a b j).map U32).take j = ((List.zipWith (· + ·) a b).take j).map U32 := by
    rw [addK, List.map_append]; exact List.take_left' (by simp [h]; omega)
  have e2 : ((addK a b j).map U32).drop (j + 1) = (a.drop (j + 1)).map U32 := by
    rw [addK, List.map_append, ← List.drop_drop, List.drop_left' (by simp [h]; omega), ← List.map_drop, List.drop_drop]
  unfold spl
  show _ ++ _ ++ List.drop (j + 1) _ = _
  rw [e1, e2, addK, List.take_succ_eq_append_getElem (by omega)]
  simp [List.getD_eq_getElem?_getD, hj, ← h]
theorem map_at (l : List UInt32) (j : Nat) (h : j < l.length) : (l.map U32)[j]? = some (U32 (l.getD j 0)) := by
  rw [List.getElem?_map]; simp [List.getD_eq_getElem?_getD, h]
theorem l_at (v : S8) (j : Nat) (h : j < 8) : (v.l.map U32)[j]? = some (U32 (v.l.getD j 0)) := map_at v.l j (by rw [l_length]; exact h)
set_option maxRecDepth 100000 in
set_option maxHeartbeats 1000000 in
theorem mix_calls (v : S8) (s : ByteArray) (w : World) (hs : s.size = 64) (hg : GL w) :
    Calls Tryd.prog 146 #[V8 v, .string s] w fun e w' => e = .returned (V8 (mix8 v s.data.toList)) ∧ Cl w [] [] w' := by
  have hsl := sched_length s.data.toList 64
  refine calls_of_CW (L := []) Tryd.func146 rfl (Nat.le_of_ble_eq_true rfl) (Cl.refl _) ?_
  refine CW.seq_k fun K1 hK1 => ?_
  refine CW.region ?_
  refine OW.box (cs := v.l.map U32) rfl rfl rfl (by (conv => lhs; whnf) <;> rfl) rfl (fun b2 => ?_)
  refine OW.alloc rfl rfl rfl tz188 (fun b4 => ?_)
  refine OW.nil ?_
  refine hK1 _ _ ?_
  refine CW.seq_k fun K2 hK2 => ?_
  refine CW.region ?_
  refine OW.q rfl rfl (yq_loadW (cs := v.l.map U32) rfl (by (conv => lhs; whnf) <;> rfl) ti188 (List.mem_cons_of_mem _ (List.mem_cons_self ..))) ?_
  refine OW.alloc rfl rfl rfl tz188 (fun b5 => ?_)
  refine OW.store' rfl rfl rfl (by (conv => lhs; whnf) <;> rfl) (by (conv => lhs; whnf) <;> rfl) (vs := v.l.map U32) ti188 rfl (U32_one _) .head (spl_all _ _ rfl) (by simp [l_length]) ?_
  refine OW.nil ?_
  refine hK2 _ _ ?_
  refine CW.seq_k fun K3 hK3 => ?_
  refine CW.seq_k fun K4 hK4 => ?_
  refine CW.region ?_
  refine OW.q rfl rfl (yq_move rfl (by (conv => lhs; whnf) <;> rfl)) ?_
  refine OW.q rfl rfl (yq_call rfl rfl (.cons (by (conv => lhs; whnf) <;> rfl) .nil) en158 (fun w hw => spread_calls s w hs)) ?_
  refine OW.q rfl rfl (yq_move rfl (by (conv => lhs; whnf) <;> rfl)) ?_
  refine OW.nil ?_
  refine hK4 _ _ ?_
  refine CW.block ?_
  refine CW.loop (σ := Nat) (fun i ρ L => Has ρ [(2, .pointer (some ⟨b2, 0, none⟩)), (4, .pointer (some ⟨b4, 0, none⟩)), (5, .pointer (some ⟨b5, 0, none⟩)), (15, .agg ((sched s.data.toList 64).map U32).toArray), (16, .int .i64 (i : Int))] ∧ i ≤ 64 ∧ L = [.blk b5 ((rounds8 (sched s.data.toList 64) v i).l.map U32) 188 (0, 0), .blk b4 (List.replicate 8 (.int .u32 0)) 188 (0, 0), .blk b2 (v.l.map U32) 188 (0, 0)]) (fun i => 64 - i) (0) ?_ ?_
  · exact ⟨Has.mk ⟨(by (conv => lhs; whnf) <;> rfl), (by (conv => lhs; whnf) <;> rfl), (by (conv => lhs; whnf) <;> rfl), (by (conv => lhs; whnf) <;> rfl), (by (conv => lhs; whnf) <;> rfl), trivial⟩, Nat.zero_le _, by rw [rounds8_zero]⟩
  · rintro i _ _ ⟨⟨ρ', rfl⟩, hi, rfl⟩
    obtain ⟨vi, hvi⟩ : ∃ vi, vi = rounds8 (sched s.data.toList 64) v i := ⟨_, rfl⟩
    rw [← hvi]
    refine CW.seq_k fun K5 hK5 => ?_
    refine CW.region ?_
    refine OW.q rfl rfl (yq_lss rfl (by (conv => lhs; whnf) <;> rfl) (by (conv => lhs; whnf) <;> rfl)) ?_
    refine OW.nil ?_
    refine hK5 _ _ ?_
    refine CW.seq_k fun K6 hK6 => ?_
    refine CW.cond_dec (by (conv => lhs; whnf) <;> rfl) (fun hc1 => ?_) (fun hc1 => ?_)
    · have hlt : i < 64 := by omega
      have hstep : rounds8 (sched s.data.toList 64) v (i + 1) = step8 vi (roundKs.getD i 0) ((sched s.data.toList 64).getD i 0) := by rw [hvi, rounds8_succ]
      refine CW.skip ?_
      refine hK6 _ _ ?_
      refine CW.seq_k fun K7 hK7 => ?_
      refine CW.block ?_
      refine CW.seq_k fun K8 hK8 => ?_
      refine CW.region ?_
      refine OW.q rfl rfl (yq_move rfl (by (conv => lhs; whnf) <;> rfl)) ?_
      refine OW.q rfl rfl (yq_indexV1 (s := 1) rfl (by (conv => lhs; whnf) <;> rfl) (by (conv => lhs; whnf) <;> rfl) ta190 ti187 (by omega) (by omega) (by rw [Int.toNat_natCast]; exact map_at _ _ (by omega))) ?_
      refine OW.q rfl rfl (yq_assign rfl (by (conv => lhs; whnf) <;> rfl)) ?_
      refine OW.q rfl rfl (yq_assign rfl (by (conv => lhs; whnf) <;> rfl)) ?_
      refine OW.nil ?_
      refine hK8 _ _ ?_
      refine CW.seq_k fun K9 hK9 => ?_
      refine CW.draw mixed (by kernel_rfl) ?_
      refine QW.q rfl rfl (yq_index_arr rfl (by (conv => lhs; whnf) <;> rfl) (by (conv => lhs; whnf) <;> rfl) ta188 ti187 (by decide) (by decide)) ?_
      refine QW.q rfl rfl (yq_load1 rfl (by (conv => lhs; whnf) <;> rfl) ti187 (List.mem_cons_self ..) rfl) ?_
      refine QW.q rfl rfl (yq_index_arr rfl (by (conv => lhs; whnf) <;> rfl) (by (conv => lhs; whnf) <;> rfl) ta188 ti187 (by decide) (by decide)) ?_
      refine QW.q rfl rfl (yq_load1 rfl (by (conv => lhs; whnf) <;> rfl) ti187 (List.mem_cons_self ..) rfl) ?_
      refine QW.q rfl rfl (yq_assign rfl (by (conv => lhs; whnf) <;> rfl)) ?_
      refine QW.q rfl rfl (yq_assign rfl (by (conv => lhs; whnf) <;> rfl)) ?_
      refine QW.nil ?_
      refine hK9 _ _ ?_
      refine CW.seq_k fun K10 hK10 => ?_
      refine CW.draw mixed (by kernel_rfl) ?_
      refine QW.q rfl rfl (yq_index_arr rfl (by (conv => lhs; whnf) <;> rfl) (by (conv => lhs; whnf) <;> rfl) ta188 ti187 (by decide) (by decide)) ?_
      refine QW.q rfl rfl (yq_load1 rfl (by (conv => lhs; whnf) <;> rfl) ti187 (List.mem_cons_self ..) rfl) ?_
      refine QW.q rfl rfl (yq_move rfl (by (conv => lhs; whnf) <;> rfl)) ?_
      refine QW.q rfl rfl (yq_call rfl rfl (.cons (by (conv => lhs; whnf) <;> rfl) ( .cons (by (conv => lhs; whnf) <;> rfl) .nil)) en159 (fun w hw => right_calls _ 6 w (by decide) (by decide))) ?_
      refine QW.q rfl rfl (yq_move rfl (by (conv => lhs; whnf) <;> rfl)) ?_
      refine QW.q rfl rfl (yq_call rfl rfl (.cons (by (conv => lhs; whnf) <;> rfl) ( .cons (by (conv => lhs; whnf) <;> rfl) .nil)) en159 (fun w hw => right_calls _ 11 w (by decide) (by decide))) ?_
      refine QW.q rfl rfl (yq_xor_u32 rfl (by (conv => lhs; whnf) <;> rfl) (by (conv => lhs; whnf) <;> rfl)) ?_
      refine QW.q rfl rfl (yq_move rfl (by (conv => lhs; whnf) <;> rfl)) ?_
      refine QW.q rfl rfl (yq_call rfl rfl (.cons (by (conv => lhs; whnf) <;> rfl) ( .cons (by (conv => lhs; whnf) <;> rfl) .nil)) en159 (fun w hw => right_calls _ 25 w (by decide) (by decide))) ?_
      refine QW.q rfl rfl (yq_xor_u32 rfl (by (conv => lhs; whnf) <;> rfl) (by (conv => lhs; whnf) <;> rfl)) ?_
      refine QW.q rfl rfl (yq_add_u32 rfl (by (conv => lhs; whnf) <;> rfl) (by (conv => lhs; whnf) <;> rfl)) ?_
      refine QW.q rfl rfl (yq_move rfl (by (conv => lhs; whnf) <;> rfl)) ?_
      refine QW.q rfl rfl (yq_index_arr rfl (by (conv => lhs; whnf) <;> rfl) (by (conv => lhs; whnf) <;> rfl) ta188 ti187 (by decide) (by decide)) ?_
      refine QW.q rfl rfl (yq_load1 rfl (by (conv => lhs; whnf) <;> rfl) ti187 (List.mem_cons_self ..) rfl) ?_
      refine QW.q rfl rfl (yq_and_u32 rfl (by (conv => lhs; whnf) <;> rfl) (by (conv => lhs; whnf) <;> rfl)) ?_
      refine QW.q rfl rfl (yq_move rfl (by (conv => lhs; whnf) <;> rfl)) ?_
      refine QW.q rfl rfl (yq_not_u32 rfl (by (conv => lhs; whnf) <;> rfl)) ?_
      refine QW.q rfl rfl (yq_index_arr rfl (by (conv => lhs; whnf) <;> rfl) (by (conv => lhs; whnf) <;> rfl) ta188 ti187 (by decide) (by decide)) ?_
      refine QW.q rfl rfl (yq_load1 rfl (by (conv => lhs; whnf) <;> rfl) ti187 (List.mem_cons_self ..) rfl) ?_
      refine QW.q rfl rfl (yq_and_u32 rfl (by (conv => lhs; whnf) <;> rfl) (by (conv => lhs; whnf) <;> rfl)) ?_
      refine QW.q rfl rfl (yq_xor_u32 rfl (by (conv => lhs; whnf) <;> rfl) (by (conv => lhs; whnf) <;> rfl)) ?_
      refine QW.q rfl rfl (yq_add_u32 rfl (by (conv => lhs; whnf) <;> rfl) (by (conv => lhs; whnf) <;> rfl)) ?_
      refine QW.q rfl rfl (yq_move rfl (by (conv => lhs; whnf) <;> rfl)) ?_
      refine QW.q rfl rfl (yq_index_arr rfl (by (conv => lhs; whnf) <;> rfl) (by (conv => lhs; whnf) <;> rfl) ta190 ti187 (by omega) (by omega)) ?_
      refine QW.q rfl rfl (yq_load_c rfl (by (conv => lhs; whnf) <;> rfl) (fun w hw => run_load_one ti187 (by rw [show 0 + (i : Int).toNat * 1 = i by omega]; exact (Cl_gl0 hw hg).2 i _ (map_at roundKs i (by exact hlt))))) ?_
      refine QW.q rfl rfl (yq_add_u32 rfl (by (conv => lhs; whnf) <;> rfl) (by (conv => lhs; whnf) <;> rfl)) ?_
      refine QW.q rfl rfl (yq_move rfl (by (conv => lhs; whnf) <;> rfl)) ?_
      refine QW.q rfl rfl (yq_add_u32 rfl (by (conv => lhs; whnf) <;> rfl) (by (conv => lhs; whnf) <;> rfl)) ?_
      refine QW.q rfl rfl (yq_assign rfl (by (conv => lhs; whnf) <;> rfl)) ?_
      refine QW.nil ?_
      refine hK10 _ _ ?_
      refine CW.seq_k fun K11 hK11 => ?_
      refine CW.draw mixed (by kernel_rfl) ?_
      refine QW.q rfl rfl (yq_move rfl (by (conv => lhs; whnf) <;> rfl)) ?_
      refine QW.q rfl rfl (yq_call rfl rfl (.cons (by (conv => lhs; whnf) <;> rfl) ( .cons (by (conv => lhs; whnf) <;> rfl) .nil)) en159 (fun w hw => right_calls _ 2 w (by decide) (by decide))) ?_
      refine QW.q rfl rfl (yq_move rfl (by (conv => lhs; whnf) <;> rfl)) ?_
      refine QW.q rfl rfl (yq_call rfl rfl (.cons (by (conv => lhs; whnf) <;> rfl) ( .cons (by (conv => lhs; whnf) <;> rfl) .nil)) en159 (fun w hw => right_calls _ 13 w (by decide) (by decide))) ?_
      refine QW.q rfl rfl (yq_xor_u32 rfl (by (conv => lhs; whnf) <;> rfl) (by (conv => lhs; whnf) <;> rfl)) ?_
      refine QW.q rfl rfl (yq_move rfl (by (conv => lhs; whnf) <;> rfl)) ?_
      refine QW.q rfl rfl (yq_call rfl rfl (.cons (by (conv => lhs; whnf) <;> rfl) ( .cons (by (conv => lhs; whnf) <;> rfl) .nil)) en159 (fun w hw => right_calls _ 22 w (by decide) (by decide))) ?_
      refine QW.q rfl rfl (yq_xor_u32 rfl (by (conv => lhs; whnf) <;> rfl) (by (conv => lhs; whnf) <;> rfl)) ?_
      refine QW.q rfl rfl (yq_move rfl (by (conv => lhs; whnf) <;> rfl)) ?_
      refine QW.q rfl rfl (yq_index_arr rfl (by (conv => lhs; whnf) <;> rfl) (by (conv => lhs; whnf) <;> rfl) ta188 ti187 (by decide) (by decide)) ?_
      refine QW.q rfl rfl (yq_load1 rfl (by (conv => lhs; whnf) <;> rfl) ti187 (List.mem_cons_self ..) rfl) ?_
      refine QW.q rfl rfl (yq_and_u32 rfl (by (conv => lhs; whnf) <;> rfl) (by (conv => lhs; whnf) <;> rfl)) ?_
      refine QW.q rfl rfl (yq_move rfl (by (conv => lhs; whnf) <;> rfl)) ?_
      refine QW.q rfl rfl (yq_index_arr rfl (by (conv => lhs; whnf) <;> rfl) (by (conv => lhs; whnf) <;> rfl) ta188 ti187 (by decide) (by decide)) ?_
      refine QW.q rfl rfl (yq_load1 rfl (by (conv => lhs; whnf) <;> rfl) ti187 (List.mem_cons_self ..) rfl) ?_
      refine QW.q rfl rfl (yq_and_u32 rfl (by (conv => lhs; whnf) <;> rfl) (by (conv => lhs; whnf) <;> rfl)) ?_
      refine QW.q rfl rfl (yq_xor_u32 rfl (by (conv => lhs; whnf) <;> rfl) (by (conv => lhs; whnf) <;> rfl)) ?_
      refine QW.q rfl rfl (yq_index_arr rfl (by (conv => lhs; whnf) <;> rfl) (by (conv => lhs; whnf) <;> rfl) ta188 ti187 (by decide) (by decide)) ?_
      refine QW.q rfl rfl (yq_load1 rfl (by (conv => lhs; whnf) <;> rfl) ti187 (List.mem_cons_self ..) rfl) ?_
      refine QW.q rfl rfl (yq_index_arr rfl (by (conv => lhs; whnf) <;> rfl) (by (conv => lhs; whnf) <;> rfl) ta188 ti187 (by decide) (by decide)) ?_
      refine QW.q rfl rfl (yq_load1 rfl (by (conv => lhs; whnf) <;> rfl) ti187 (List.mem_cons_self ..) rfl) ?_
      refine QW.q rfl rfl (yq_and_u32 rfl (by (conv => lhs; whnf) <;> rfl) (by (conv => lhs; whnf) <;> rfl)) ?_
      refine QW.q rfl rfl (yq_xor_u32 rfl (by (conv => lhs; whnf) <;> rfl) (by (conv => lhs; whnf) <;> rfl)) ?_
      refine QW.q rfl rfl (yq_add_u32 rfl (by (conv => lhs; whnf) <;> rfl) (by (conv => lhs; whnf) <;> rfl)) ?_
      refine QW.q rfl rfl (yq_assign rfl (by (conv => lhs; whnf) <;> rfl)) ?_
      refine QW.nil ?_
      refine hK11 _ _ ?_
      refine CW.region ?_
      refine OW.q rfl rfl (yq_move rfl (by (conv => lhs; whnf) <;> rfl)) ?_
      refine OW.q rfl rfl (yq_move rfl (by (conv => lhs; whnf) <;> rfl)) ?_
      refine OW.q rfl rfl (yq_add_u32 rfl (by (conv => lhs; whnf) <;> rfl) (by (conv => lhs; whnf) <;> rfl)) ?_
      refine OW.q rfl rfl (yq_move rfl (by (conv => lhs; whnf) <;> rfl)) ?_
      refine OW.q rfl rfl (yq_index_arr rfl (by (conv => lhs; whnf) <;> rfl) (by (conv => lhs; whnf) <;> rfl) ta188 ti187 (by decide) (by decide)) ?_
      refine OW.q rfl rfl (yq_load1 rfl (by (conv => lhs; whnf) <;> rfl) ti187 (List.mem_cons_self ..) rfl) ?_
      refine OW.q rfl rfl (yq_index_arr rfl (by (conv => lhs; whnf) <;> rfl) (by (conv => lhs; whnf) <;> rfl) ta188 ti187 (by decide) (by decide)) ?_
      refine OW.q rfl rfl (yq_load1 rfl (by (conv => lhs; whnf) <;> rfl) ti187 (List.mem_cons_self ..) rfl) ?_
      refine OW.q rfl rfl (yq_index_arr rfl (by (conv => lhs; whnf) <;> rfl) (by (conv => lhs; whnf) <;> rfl) ta188 ti187 (by decide) (by decide)) ?_
      refine OW.q rfl rfl (yq_load1 rfl (by (conv => lhs; whnf) <;> rfl) ti187 (List.mem_cons_self ..) rfl) ?_
      refine OW.q rfl rfl (yq_move rfl (by (conv => lhs; whnf) <;> rfl)) ?_
      refine OW.q rfl rfl (yq_add_u32 rfl (by (conv => lhs; whnf) <;> rfl) (by (conv => lhs; whnf) <;> rfl)) ?_
      refine OW.q rfl rfl (yq_move rfl (by (conv => lhs; whnf) <;> rfl)) ?_
      refine OW.q rfl rfl (yq_index_arr rfl (by (conv => lhs; whnf) <;> rfl) (by (conv => lhs; whnf) <;> rfl) ta188 ti187 (by decide) (by decide)) ?_
      refine OW.q rfl rfl (yq_load1 rfl (by (conv => lhs; whnf) <;> rfl) ti187 (List.mem_cons_self ..) rfl) ?_
      refine OW.q rfl rfl (yq_index_arr rfl (by (conv => lhs; whnf) <;> rfl) (by (conv => lhs; whnf) <;> rfl) ta188 ti187 (by decide) (by decide)) ?_
      refine OW.q rfl rfl (yq_load1 rfl (by (conv => lhs; whnf) <;> rfl) ti187 (List.mem_cons_self ..) rfl) ?_
      refine OW.q rfl rfl (yq_build (cs := (step8 vi (roundKs.getD i 0) ((sched s.data.toList 64).getD i 0)).l.map U32) rfl rfl (by kernel_rfl)) ?_
      refine OW.store' rfl rfl rfl (by (conv => lhs; whnf) <;> rfl) (by (conv => lhs; whnf) <;> rfl) (vs := (step8 vi (roundKs.getD i 0) ((sched s.data.toList 64).getD i 0)).l.map U32) ti188 rfl (U32_one _) .head (spl_all _ _ rfl) (by simp [l_length]) ?_
      refine OW.nil ?_
      refine hK7 _ _ ?_
      refine CW.region ?_
      refine OW.q rfl rfl (yq_add rfl (by (conv => lhs; whnf) <;> rfl) (by (conv => lhs; whnf) <;> rfl) (by omega)) ?_
      refine OW.q rfl rfl (yq_move rfl (by (conv => lhs; whnf) <;> rfl)) ?_
      refine OW.nil ?_
      exact ⟨i + 1, ⟨Has.mk ⟨(by (conv => lhs; whnf) <;> rfl), (by (conv => lhs; whnf) <;> rfl), (by (conv => lhs; whnf) <;> rfl), (by (conv => lhs; whnf) <;> rfl), (by (conv => lhs; whnf) <;> rfl), trivial⟩, by omega, by rw [hstep]⟩, by omega⟩
    · have hi64 : i = 64 := by omega
      clear hi hc1
      subst hi64
      refine CW.exit ?_
      refine then_exit ?_
      refine then_exit ?_
      refine blockQ_hit ?_
      refine hK3 _ _ ?_
      refine CW.seq_k fun K12 hK12 => ?_
      refine CW.seq_k fun K13 hK13 => ?_
      refine CW.region ?_
      refine OW.q rfl rfl (yq_move rfl (by (conv => lhs; whnf) <;> rfl)) ?_
      refine OW.nil ?_
      refine hK13 _ _ ?_
      refine CW.block ?_
      refine CW.loop (σ := Nat) (fun j ρ L => Has ρ [(2, .pointer (some ⟨b2, 0, none⟩)), (4, .pointer (some ⟨b4, 0, none⟩)), (5, .pointer (some ⟨b5, 0, none⟩)), (95, .int .i64 (j : Int))] ∧ j ≤ 8 ∧ L = [.blk b5 ((addK vi.l v.l j).map U32) 188 (0, 0), .blk b4 (List.replicate 8 (.int .u32 0)) 188 (0, 0), .blk b2 (v.l.map U32) 188 (0, 0)]) (fun j => 8 - j) (0) ?_ ?_
      · exact ⟨Has.mk ⟨(by (conv => lhs; whnf) <;> rfl), (by (conv => lhs; whnf) <;> rfl), (by (conv => lhs; whnf) <;> rfl), (by (conv => lhs; whnf) <;> rfl), trivial⟩, Nat.zero_le _, rfl⟩
      · rintro j _ _ ⟨⟨ρ', rfl⟩, hj, rfl⟩
        have eJ : 0 + (j : Int).toNat * 1 = j := by omega
        refine CW.seq_k fun K14 hK14 => ?_
        refine CW.region ?_
        refine OW.q rfl rfl (yq_lss rfl (by (conv => lhs; whnf) <;> rfl) (by (conv => lhs; whnf) <;> rfl)) ?_
        refine OW.nil ?_
        refine hK14 _ _ ?_
        refine CW.seq_k fun K15 hK15 => ?_
        refine CW.cond_dec (by (conv => lhs; whnf) <;> rfl) (fun hc4 => ?_) (fun hc4 => ?_)
        · refine CW.skip ?_
          refine hK15 _ _ ?_
          refine CW.seq_k fun K16 hK16 => ?_
          refine CW.block ?_
          refine CW.seq_k fun K17 hK17 => ?_
          refine CW.region ?_
          refine OW.q rfl rfl (yq_move rfl (by (conv => lhs; whnf) <;> rfl)) ?_
          refine OW.q rfl rfl (yq_assign rfl (by (conv => lhs; whnf) <;> rfl)) ?_
          refine OW.nil ?_
          refine hK17 _ _ ?_
          refine CW.drawT 8 mixed (by kernel_rfl) ?_
          refine QW.q rfl rfl (yq_move rfl (by (conv => lhs; whnf) <;> rfl)) ?_
          refine QW.q rfl rfl (yq_index_arr rfl (by (conv => lhs; whnf) <;> rfl) (by (conv => lhs; whnf) <;> rfl) ta188 ti187 (by omega) (by omega)) ?_
          refine QW.q rfl rfl (yq_load1 rfl (by (conv => lhs; whnf) <;> rfl) ti187 (List.mem_cons_self ..) (by rw [eJ]; exact addK_at _ _ _ (by rw [l_length]; omega) rfl)) ?_
          refine QW.q rfl rfl (yq_move rfl (by (conv => lhs; whnf) <;> rfl)) ?_
          refine QW.q rfl rfl (yq_index_arr rfl (by (conv => lhs; whnf) <;> rfl) (by (conv => lhs; whnf) <;> rfl) ta188 ti187 (by omega) (by omega)) ?_
          refine QW.q rfl rfl (yq_load1 rfl (by (conv => lhs; whnf) <;> rfl) ti187 (List.mem_cons_of_mem _ (List.mem_cons_of_mem _ (List.mem_cons_self ..))) (by rw [eJ]; exact l_at _ _ (by omega))) ?_
          refine QW.q rfl rfl (yq_add_u32 rfl (by (conv => lhs; whnf) <;> rfl) (by (conv => lhs; whnf) <;> rfl)) ?_
          refine QW.q rfl rfl (yq_index_arr rfl (by (conv => lhs; whnf) <;> rfl) (by (conv => lhs; whnf) <;> rfl) ta188 ti187 (by omega) (by omega)) ?_
          refine QW.nil ?_
          refine OW.store1 rfl rfl rfl (by (conv => lhs; whnf) <;> rfl) (by (conv => lhs; whnf) <;> rfl) ti187 rfl .head (spl_at eJ (addK_spl _ _ _ (by rw [l_length]; omega) rfl)) (by rw [List.length_map, addK_length vi.l v.l j rfl (by rw [l_length]; omega), l_length]; omega) ?_
          refine OW.nil ?_
          refine hK16 _ _ ?_
          refine CW.region ?_
          refine OW.q rfl rfl (yq_add rfl (by (conv => lhs; whnf) <;> rfl) (by (conv => lhs; whnf) <;> rfl) (by omega)) ?_
          refine OW.q rfl rfl (yq_move rfl (by (conv => lhs; whnf) <;> rfl)) ?_
          refine OW.nil ?_
          exact ⟨j + 1, ⟨Has.mk ⟨(by (conv => lhs; whnf) <;> rfl), (by (conv => lhs; whnf) <;> rfl), (by (conv => lhs; whnf) <;> rfl), (by (conv => lhs; whnf) <;> rfl), trivial⟩, by omega, rfl⟩, by omega⟩
        · have hj8 : j = 8 := by omega
          clear hj hc4
          subst hj8
          refine CW.exit ?_
          refine then_exit ?_
          refine then_exit ?_
          refine blockQ_hit ?_
          refine hK12 _ _ ?_
          refine CW.seq_k fun K18 hK18 => ?_
          refine CW.region ?_
          refine OW.q rfl rfl (yq_loadW (cs := (addK vi.l v.l 8).map U32) rfl (by (conv => lhs; whnf) <;> rfl) ti188 (List.mem_cons_self ..)) ?_
          refine OW.store' rfl rfl rfl (by (conv => lhs; whnf) <;> rfl) (by (conv => lhs; whnf) <;> rfl) (vs := (addK vi.l v.l 8).map U32) ti188 rfl (U32_one _) (.tail .head) (spl_all _ _ rfl) (by simp [l_length, addK]) ?_
          refine OW.nil ?_
          refine hK18 _ _ ?_
          refine CW.ret ?_
          -- ret (ret)
          refine fin1 (Or.inr rfl) rfl (rv_cell (cs := (addK vi.l v.l 8).map U32) (by decide) (by (conv => lhs; whnf) <;> rfl) ti188 (List.mem_cons_of_mem _ (List.mem_cons_self ..))) (fun w hw => ⟨?_, hw.sub (by simp)⟩)
          rw [hvi]; rfl
end Go.Proofs.YtahdekllphehkaaDoor
namespace Go.Proofs.YtahdekllphehkaaDoor
open Go.WL Go.Spec
theorem repeatL_one (x : UInt8) (c : Nat) : Lib.repeatL [x] c = List.replicate c x := by
  induction c with
  | zero => rfl
  | succ c ih => rw [Lib.repeatL, ih, List.replicate_succ]; rfl
theorem filledB_length (s : Bytes) : (filledB s).length = 64 * ((filledB s).length / 64) := by
  simp only [filledB, List.length_append, List.length_replicate, putB_length, List.length_cons, List.length_nil]; omega
theorem hc_zero : hc zeroHash = List.replicate 32 (.int .u8 0) := by kernel_rfl
theorem hc_hashOf (l : Bytes) (h : l.length = 32) : hc (hashOf l h) = bc l := by
  unfold hc hashOf Vector.toList; rfl
/-- The hash's cells behind so many words. -/
def outK (v : S8) (i : Nat) : List Value := bc ((v.l.take i).flatMap fun n => putB n.toUInt64 4) ++ List.replicate (32 - 4 * i) (.int .u8 0)
theorem fm_length (l : List UInt32) : (l.flatMap fun n => putB n.toUInt64 4).length = 4 * l.length := by
  induction l with
  | nil => rfl
  | cons x l ih => rw [List.flatMap_cons, List.length_append, ih, putB_length, List.length_cons]; omega
theorem outK_length (v : S8) (i : Nat) (h : i ≤ 8) : (outK v i).length = 32 := by
  simp only [outK, List.length_append, bc_length, fm_length, List.length_replicate, List.length_take, l_length]; omega
theorem outK_spl (v : S8) (i : Nat) (h : i < 8) : spl (outK v i) (4 * i) (bc (putB (v.l.getD i 0).toUInt64 4)) = outK v (i + 1) := by
  have hl : i < v.l.length := by rw [l_length]; exact h
  have h0 : ((v.l.take i).flatMap fun n => putB n.toUInt64 4).length = 4 * i := by rw [fm_length, List.length_take, l_length]; omega
  have e1 : (outK v i).take (4 * i) = bc ((v.l.take i).flatMap fun n => putB n.toUInt64 4) := List.take_left' (by rw [bc_length, h0])
  have e2 : (outK v i).drop (4 * i + 4) = List.replicate (32 - 4 * (i + 1)) (.int .u8 0) := by
    rw [← List.drop_drop, outK, List.drop_left' (by rw [bc_length, h0]), List.drop_replicate]; congr 1
  unfold spl
  rw [bc_length, putB_length, e1, e2, outK, List.take_succ_eq_append_getElem hl, List.flatMap_append]
  simp [bc, List.getD_eq_getElem?_getD, hl]
theorem sha_cells (l : Bytes) : hc (sha l) = outK (blocks8 firstS ((filledB l).length / 64) (filledB l)) 8 := by
  unfold sha
  rw [hc_hashOf]
  simp [outK, outB, S8.l]
theorem take64 {F : Bytes} {N k : Nat} (hF : F.length = 64 * N) (hk : k < N) : ((F.drop (64 * k)).take 64).length = 64 := by simp; omega
set_option maxRecDepth 100000 in
set_option maxHeartbeats 1000000 in
theorem filled_calls (l : Bytes) (w : World) (hs : l.length ≤ 4294967296) :
    Calls Tryd.prog 145 #[.string (bs l)] w fun e w' => e = .returned (.string (bs (filledB l))) ∧ Cl w [] [] w' := by
  have ez : (119 - (l.length : Int) % 64) % 64 = (((64 + 55 - l.length % 64) % 64 : Nat) : Int) := by omega
  refine calls_of_CW (L := []) Tryd.func145 rfl (Nat.le_of_ble_eq_true rfl) (Cl.refl _) ?_
  refine CW.seq_k fun K1 hK1 => ?_
  refine CW.region ?_
  refine OW.q rfl rfl (yq_assign rfl (by (conv => lhs; whnf) <;> rfl)) ?_
  refine OW.nil ?_
  refine hK1 _ _ ?_
  refine CW.seq_k fun K2 hK2 => ?_
  refine CW.region ?_
  refine OW.q rfl rfl (yq_move rfl (by (conv => lhs; whnf) <;> rfl)) ?_
  refine OW.q rfl rfl (yq_len_bs rfl tt9 (by (conv => lhs; whnf) <;> rfl)) ?_
  refine OW.q rfl rfl (yq_rem rfl (by (conv => lhs; whnf) <;> rfl) (by (conv => lhs; whnf) <;> rfl) (by omega)) ?_
  refine OW.q rfl rfl (yq_sub rfl (by (conv => lhs; whnf) <;> rfl) (by (conv => lhs; whnf) <;> rfl) (by omega)) ?_
  refine OW.q rfl rfl (yq_rem rfl (by (conv => lhs; whnf) <;> rfl) (by (conv => lhs; whnf) <;> rfl) (by omega)) ?_
  refine OW.q rfl rfl (yq_assign rfl (by (conv => lhs; whnf) <;> rfl)) ?_
  refine OW.nil ?_
  refine hK2 _ _ ?_
  refine CW.seq_k fun K3 hK3 => ?_
  refine CW.region ?_
  refine OW.q rfl rfl (yq_move rfl (by (conv => lhs; whnf) <;> rfl)) ?_
  refine OW.q rfl rfl (yq_add_bs rfl (by (conv => lhs; whnf) <;> rfl) (by (conv => lhs; whnf) <;> rfl) (by simp only [List.length_cons, List.length_nil]; omega)) ?_
  refine OW.q rfl rfl (yq_move rfl (by (conv => lhs; whnf) <;> rfl)) ?_
  refine OW.q rfl rfl (yq_call rfl rfl (.cons (by (conv => lhs; whnf) <;> rfl) ( .cons (by (conv => lhs; whnf) <;> rfl) .nil)) en157 (fun w hw => by rw [ez]; exact (Tryd.strings_Repeat ⟨#[0]⟩ _ w (by omega) (by show 1 * _ ≤ _; omega)).mono fun e w1 ⟨h1, h2⟩ => ⟨h1.trans (by rw [show (⟨#[0]⟩ : ByteArray).data.toList = [0] from rfl, repeatL_one]), Cl.of_below h2⟩)) ?_
  refine OW.q rfl rfl (yq_add_bs (b := List.replicate ((64 + 55 - l.length % 64) % 64) 0) rfl (by (conv => lhs; whnf) <;> rfl) (by (conv => lhs; whnf) <;> rfl) (by simp only [List.length_append, List.length_replicate, List.length_cons, List.length_nil]; omega)) ?_
  refine OW.q rfl rfl (yq_move rfl (by (conv => lhs; whnf) <;> rfl)) ?_
  refine OW.q rfl rfl (yq_len_bs rfl tt9 (by (conv => lhs; whnf) <;> rfl)) ?_
  refine OW.q rfl rfl (yq_conv_i64_u64 rfl Tryd.underlying3 Tryd.underlying147 (by (conv => lhs; whnf) <;> rfl) (by omega)) ?_
  refine OW.q rfl rfl (yq_mul_u64 (b := 8) rfl (by (conv => lhs; whnf) <;> rfl) (by (conv => lhs; whnf) <;> rfl)) ?_
  refine OW.q rfl rfl (yq_call rfl rfl (.cons (by (conv => lhs; whnf) <;> rfl) ( .cons (by (conv => lhs; whnf) <;> rfl) .nil)) en125 (fun w hw => put_calls _ 8 w (by decide) (by decide))) ?_
  refine OW.q rfl rfl (yq_add_bs rfl (by (conv => lhs; whnf) <;> rfl) (by (conv => lhs; whnf) <;> rfl) (by simp only [List.length_append, List.length_replicate, putB_length, List.length_cons, List.length_nil]; omega)) ?_
  refine OW.q rfl rfl (yq_assign rfl (by (conv => lhs; whnf) <;> rfl)) ?_
  refine OW.nil ?_
  refine hK3 _ _ ?_
  refine CW.ret ?_
  -- ret (ret)
  exact fin1 (Or.inr rfl) rfl ⟨by decide, (by (conv => lhs; whnf) <;> rfl)⟩ (fun w hw => ⟨by unfold filledB; rw [Int.toNat_natCast], hw⟩)
set_option maxRecDepth 100000 in
set_option maxHeartbeats 1000000 in
theorem sum_calls (l : Bytes) (w : World) (hs : l.length ≤ 4294967296) (hg : GL w) :
    Calls Tryd.prog 100 #[.string (bs l)] w fun e w' => e = .returned (HV (sha l)) ∧ Cl w [] [] w' := by
  obtain ⟨F, hF0⟩ : ∃ F, F = filledB l := ⟨_, rfl⟩
  obtain ⟨N, hN⟩ : ∃ N, N = F.length / 64 := ⟨_, rfl⟩
  have hF : F.length = 64 * N := by rw [hN, hF0]; exact filledB_length l
  have hsha : hc (sha l) = outK (blocks8 firstS N F) 8 := by rw [sha_cells, hN, hF0]
  have hfil : ∀ w, Calls Tryd.prog 145 #[.string (bs l)] w fun e w1 => e = .returned (.string (bs F)) ∧ Cl w [] [] w1 := by rw [hF0]; exact fun w => filled_calls l w hs
  refine calls_of_CW (L := []) Tryd.func100 rfl (Nat.le_of_ble_eq_true rfl) (Cl.refl _) ?_
  refine CW.seq_k fun K1 hK1 => ?_
  refine CW.region ?_
  refine OW.alloc rfl rfl rfl tz25 (fun b2 => ?_)
  refine OW.nil ?_
  refine hK1 _ _ ?_
  refine CW.seq_k fun K2 hK2 => ?_
  refine CW.region ?_
  refine OW.q rfl rfl (yq_load_c (v := V8 firstS) rfl (by (conv => lhs; whnf) <;> rfl) (fun w hw => run_load_agg (vs := firstS.l.map U32) ti188 fun j u hu => by rw [Nat.zero_add]; exact (Cl_gl0 hw hg).1 j u hu)) ?_
  refine OW.alloc rfl rfl rfl tz188 (fun b3 => ?_)
  refine OW.store' rfl rfl rfl (by (conv => lhs; whnf) <;> rfl) (by (conv => lhs; whnf) <;> rfl) (vs := firstS.l.map U32) ti188 rfl (U32_one _) .head (spl_all _ _ rfl) (by decide) ?_
  refine OW.nil ?_
  refine hK2 _ _ ?_
  refine CW.seq_k fun K3 hK3 => ?_
  refine CW.seq_k fun K4 hK4 => ?_
  refine CW.region ?_
  refine OW.q rfl rfl (yq_move rfl (by (conv => lhs; whnf) <;> rfl)) ?_
  refine OW.q rfl rfl (yq_call rfl rfl (.cons (by (conv => lhs; whnf) <;> rfl) .nil) en145 (fun w hw => hfil w)) ?_
  refine OW.q rfl rfl (yq_assign rfl (by (conv => lhs; whnf) <;> rfl)) ?_
  refine OW.nil ?_
  refine hK4 _ _ ?_
  refine CW.block ?_
  refine CW.loop (σ := Nat × S8) (fun p ρ L => Has ρ [(2, .pointer (some ⟨b2, 0, none⟩)), (3, .pointer (some ⟨b3, 0, none⟩)), (4, .string (bs (F.drop (64 * p.1))))] ∧ p.1 ≤ N ∧ blocks8 p.2 (N - p.1) (F.drop (64 * p.1)) = blocks8 firstS N F ∧ L = [.blk b3 (p.2.l.map U32) 188 (0, 0), .blk b2 (hc zeroHash) 25 (0, 0)]) (fun p => N - p.1) ((0, firstS)) ?_ ?_
  · exact ⟨Has.mk ⟨(by (conv => lhs; whnf) <;> rfl), (by (conv => lhs; whnf) <;> rfl), (by (conv => lhs; whnf) <;> rfl), trivial⟩, Nat.zero_le _, rfl, rfl⟩
  · rintro ⟨k, v⟩ _ _ ⟨⟨ρ', rfl⟩, hk, hb, rfl⟩
    refine CW.seq_k fun K5 hK5 => ?_
    refine CW.seq_k fun K6 hK6 => ?_
    refine CW.region ?_
    refine OW.q rfl rfl (yq_move rfl (by (conv => lhs; whnf) <;> rfl)) ?_
    refine OW.q rfl rfl (yq_neq_bs rfl (by (conv => lhs; whnf) <;> rfl) (by (conv => lhs; whnf) <;> rfl)) ?_
    refine OW.nil ?_
    refine hK6 _ _ ?_
    refine CW.cond_dec (by (conv => lhs; whnf) <;> rfl) (fun hc1 => ?_) (fun hc1 => ?_)
    · have hlt : k < N := by
        rcases Nat.lt_or_ge k N with h | h
        · exact h
        · exact absurd (List.drop_eq_nil_of_le (by show F.length ≤ 64 * k; omega)) hc1
      have h64 := take64 hF hlt
      obtain ⟨X, hX⟩ : ∃ X, X = (F.drop (64 * k)).take 64 := ⟨_, rfl⟩
      obtain ⟨v2, hv2⟩ : ∃ v2, v2 = mix8 v X := ⟨_, rfl⟩
      have hmix : ∀ w, GL w → Calls Tryd.prog 146 #[V8 v, .string (bs X)] w fun e w1 => e = .returned (V8 v2) ∧ Cl w [] [] w1 := by
        intro w hg
        rw [hv2]
        have h := mix_calls v (bs X) w (by rw [hX]; exact h64) hg
        rw [bs_toList] at h
        exact h
      refine CW.skip ?_
      refine hK5 _ _ ?_
      refine CW.seq_k fun K7 hK7 => ?_
      refine CW.block ?_
      refine CW.drawT 4 mixed (by kernel_rfl) ?_
      refine QW.q rfl rfl (yq_loadW (cs := v.l.map U32) rfl (by (conv => lhs; whnf) <;> rfl) ti188 (List.mem_cons_self ..)) ?_
      refine QW.q rfl rfl (yq_move rfl (by (conv => lhs; whnf) <;> rfl)) ?_
      refine QW.q rfl rfl (yq_slice_bs_to (h := 64) rfl (by (conv => lhs; whnf) <;> rfl) tt9 ⟨_, _, (by (conv => lhs; whnf) <;> rfl), by decide, rfl⟩ (by have := h64; simp at this; simp; omega)) ?_
      refine QW.q rfl rfl (yq_call rfl rfl (.cons (by (conv => lhs; whnf) <;> rfl) ( .cons (by (conv => lhs; whnf) <;> rfl) .nil)) en146 (fun w hw => by rw [← hX]; exact hmix w (Cl_gl0 hw hg))) ?_
      refine QW.nil ?_
      refine OW.store' rfl rfl rfl (by (conv => lhs; whnf) <;> rfl) (by (conv => lhs; whnf) <;> rfl) (vs := v2.l.map U32) ti188 rfl (U32_one _) .head (spl_all _ _ rfl) (by simp [l_length]) ?_
      refine OW.nil ?_
      refine hK7 _ _ ?_
      refine CW.region ?_
      refine OW.q rfl rfl (yq_move rfl (by (conv => lhs; whnf) <;> rfl)) ?_
      refine OW.q rfl rfl (yq_slice_bs_from (l := 64) rfl (by (conv => lhs; whnf) <;> rfl) tt9 ⟨_, _, (by (conv => lhs; whnf) <;> rfl), by decide, rfl⟩ (by simp; omega)) ?_
      refine OW.q rfl rfl (yq_assign rfl (by (conv => lhs; whnf) <;> rfl)) ?_
      refine OW.nil ?_
      refine ⟨(k + 1, v2), ⟨Has.mk ⟨(by (conv => lhs; whnf) <;> rfl), (by (conv => lhs; whnf) <;> rfl), ?_, trivial⟩, hlt, ?_, rfl⟩, by show N - (k + 1) < N - k; omega⟩
      · conv => lhs; whnf
        rw [List.drop_drop, show 64 * (k + 1) = 64 * k + 64 by omega]
      · rw [← hb, show N - k = (N - (k + 1)) + 1 by omega, blocks8_succ, List.drop_drop, show 64 * (k + 1) = 64 * k + 64 by omega, hv2, hX]
    · have hkN : k = N := by
        rcases Nat.lt_or_ge k N with h | h
        · exact absurd (fun e => by have := congrArg List.length e; simp at this; omega) hc1
        · omega
      clear hk hc1
      subst hkN
      have hv : v = blocks8 firstS k F := by rw [← hb, Nat.sub_self, blocks8_zero]
      clear hb
      refine CW.exit ?_
      refine then_exit ?_
      refine then_exit ?_
      refine blockQ_hit ?_
      refine hK3 _ _ ?_
      refine CW.seq_k fun K8 hK8 => ?_
      refine CW.region ?_
      refine OW.alloc rfl rfl rfl tz25 (fun b5 => ?_)
      refine OW.nil ?_
      refine hK8 _ _ ?_
      refine CW.seq_k fun K9 hK9 => ?_
      refine CW.seq_k fun K10 hK10 => ?_
      refine CW.region ?_
      refine OW.q rfl rfl (yq_loadW (cs := v.l.map U32) rfl (by (conv => lhs; whnf) <;> rfl) ti188 (List.mem_cons_of_mem _ (List.mem_cons_self ..))) ?_
      refine OW.q rfl rfl (yq_move rfl (by (conv => lhs; whnf) <;> rfl)) ?_
      refine OW.nil ?_
      refine hK10 _ _ ?_
      refine CW.block ?_
      refine CW.loop (σ := Nat) (fun i ρ L => Has ρ [(2, .pointer (some ⟨b2, 0, none⟩)), (5, .pointer (some ⟨b5, 0, none⟩)), (19, V8 v), (20, .int .i64 (i : Int))] ∧ i ≤ 8 ∧ L = [.blk b5 (outK v i) 25 (0, 0), .blk b3 (v.l.map U32) 188 (0, 0), .blk b2 (hc zeroHash) 25 (0, 0)]) (fun i => 8 - i) (0) ?_ ?_
      · exact ⟨Has.mk ⟨(by (conv => lhs; whnf) <;> rfl), (by (conv => lhs; whnf) <;> rfl), (by (conv => lhs; whnf) <;> rfl), (by (conv => lhs; whnf) <;> rfl), trivial⟩, Nat.zero_le _, by rw [hc_zero]; rfl⟩
      · rintro i _ _ ⟨⟨ρ', rfl⟩, hi, rfl⟩
        refine CW.seq_k fun K11 hK11 => ?_
        refine CW.region ?_
        refine OW.q rfl rfl (yq_lss rfl (by (conv => lhs; whnf) <;> rfl) (by (conv => lhs; whnf) <;> rfl)) ?_
        refine OW.nil ?_
        refine hK11 _ _ ?_
        refine CW.seq_k fun K12 hK12 => ?_
        refine CW.cond_dec (by (conv => lhs; whnf) <;> rfl) (fun hc4 => ?_) (fun hc4 => ?_)
        · refine CW.skip ?_
          refine hK12 _ _ ?_
          refine CW.seq_k fun K13 hK13 => ?_
          refine CW.block ?_
          refine CW.seq_k fun K14 hK14 => ?_
          refine CW.region ?_
          refine OW.q rfl rfl (yq_move rfl (by (conv => lhs; whnf) <;> rfl)) ?_
          refine OW.q rfl rfl (yq_indexV1 (s := 1) (cs := v.l.map U32) rfl (by (conv => lhs; whnf) <;> rfl) (by (conv => lhs; whnf) <;> rfl) ta188 ti187 (by omega) (by omega) (by rw [Int.toNat_natCast]; exact l_at _ _ (by omega))) ?_
          refine OW.q rfl rfl (yq_assign rfl (by (conv => lhs; whnf) <;> rfl)) ?_
          refine OW.q rfl rfl (yq_assign rfl (by (conv => lhs; whnf) <;> rfl)) ?_
          refine OW.nil ?_
          refine hK14 _ _ ?_
          refine CW.drawT 6 mixed (by kernel_rfl) ?_
          refine QW.q rfl rfl (yq_move rfl (by (conv => lhs; whnf) <;> rfl)) ?_
          refine QW.q rfl rfl (yq_mul rfl (by (conv => lhs; whnf) <;> rfl) (by (conv => lhs; whnf) <;> rfl) (by omega)) ?_
          refine QW.q rfl rfl (yq_slice_arr (l := 4 * i) rfl (by (conv => lhs; whnf) <;> rfl) ta25 ti5 ⟨_, _, (by (conv => lhs; whnf) <;> rfl), by omega, by omega⟩ rfl (by omega) (Nat.le_refl _)) ?_
          rw [show (if 32 = 4 * i then 0 else 0 + 4 * i * 1) = 4 * i by split <;> omega]
          refine QW.q rfl rfl (yq_move rfl (by (conv => lhs; whnf) <;> rfl)) ?_
          refine QW.q rfl rfl (yq_conv_u32_u64 rfl Tryd.underlying187 Tryd.underlying147 (by (conv => lhs; whnf) <;> rfl)) ?_
          refine QW.q rfl rfl (yq_call rfl rfl (.cons (by (conv => lhs; whnf) <;> rfl) ( .cons (by (conv => lhs; whnf) <;> rfl) .nil)) en125 (fun w hw => put_calls _ 4 w (by decide) (by decide))) ?_
          refine QW.nil ?_
          refine OW.copy_bs rfl rfl rfl (by (conv => lhs; whnf) <;> rfl) (by (conv => lhs; whnf) <;> rfl) ts92 ti5 (by rw [putB_length]; omega) .head (outK_spl v i (by omega)) (by rw [putB_length, outK_length _ _ (by omega)]; omega) ?_
          refine OW.nil ?_
          refine hK13 _ _ ?_
          refine CW.region ?_
          refine OW.q rfl rfl (yq_add rfl (by (conv => lhs; whnf) <;> rfl) (by (conv => lhs; whnf) <;> rfl) (by omega)) ?_
          refine OW.q rfl rfl (yq_move rfl (by (conv => lhs; whnf) <;> rfl)) ?_
          refine OW.nil ?_
          exact ⟨i + 1, ⟨Has.mk ⟨(by (conv => lhs; whnf) <;> rfl), (by (conv => lhs; whnf) <;> rfl), (by (conv => lhs; whnf) <;> rfl), (by (conv => lhs; whnf) <;> rfl), trivial⟩, by omega, rfl⟩, by omega⟩
        · have hi8 : i = 8 := by omega
          clear hi hc4
          subst hi8
          refine CW.exit ?_
          refine then_exit ?_
          refine then_exit ?_
          refine blockQ_hit ?_
          refine hK9 _ _ ?_
          refine CW.seq_k fun K15 hK15 => ?_
          refine CW.region ?_
          refine OW.q rfl rfl (yq_loadW (cs := outK v 8) rfl (by (conv => lhs; whnf) <;> rfl) (by rw [outK_length _ _ (Nat.le_refl _)]; exact ti25) (List.mem_cons_self ..)) ?_
          refine OW.store' rfl rfl rfl (by (conv => lhs; whnf) <;> rfl) (by (conv => lhs; whnf) <;> rfl) (vs := outK v 8) (by rw [outK_length _ _ (Nat.le_refl _)]; exact ti25) rfl (by rw [← (show hc (sha l) = outK v 8 by rw [hsha, hv])]; exact hc_one _) (.tail (.tail .head)) (spl_all _ _ (by rw [outK_length _ _ (Nat.le_refl _), hc_length])) (by rw [outK_length _ _ (Nat.le_refl _), hc_length]; decide) ?_
          refine OW.nil ?_
          refine hK15 _ _ ?_
          refine CW.ret ?_
          -- ret (ret)
          refine fin1 (Or.inr rfl) rfl (rv_cell (cs := outK v 8) (by decide) (by (conv => lhs; whnf) <;> rfl) (by rw [outK_length _ _ (Nat.le_refl _)]; exact ti25) (List.mem_cons_of_mem _ (List.mem_cons_of_mem _ (List.mem_cons_self ..)))) (fun w hw => ⟨?_, hw.sub (by simp)⟩)
          rw [HV, hsha, hv]
end Go.Proofs.YtahdekllphehkaaDoor
namespace Go.Proofs.YtahdekllphehkaaDoor
open Go.WL Go.Spec
theorem putB8_at (n : UInt64) (j : Nat) (h : j < 8) : (putB n 8).take (j + 1) = (putB n 8).take j ++ [(n >>> UInt64.ofNat (8 * (7 - j))).toUInt8] := by
  have : j = 0 ∨ j = 1 ∨ j = 2 ∨ j = 3 ∨ j = 4 ∨ j = 5 ∨ j = 6 ∨ j = 7 := by omega
  rcases this with rfl | rfl | rfl | rfl | rfl | rfl | rfl | rfl <;> simp [putB] <;> (apply UInt8.toNat_inj.1; simp [← Nat.shiftRight_add])
set_option maxRecDepth 100000 in
set_option maxHeartbeats 1000000 in
theorem pad_calls (l : Bytes) (w : World) (hs : l.length ≤ 4294967296) :
    Calls Tryd.prog 147 #[.string (bs l)] w fun e w' => ∃ v y, e = .returned v ∧ Sl 5 1 v (filledB l).length (bc (filledB l)) y ∧ Cl w [] [y] w' := by
  obtain ⟨Z, hZ⟩ : ∃ Z, Z = (64 + 55 - l.length % 64) % 64 := ⟨_, rfl⟩
  refine calls_of_CW (L := []) Tryd.func147 rfl (Nat.le_of_ble_eq_true rfl) (Cl.refl _) ?_
  refine CW.seq_k fun K1 hK1 => ?_
  refine CW.region ?_
  refine OW.q rfl rfl (yq_assign rfl (by (conv => lhs; whnf) <;> rfl)) ?_
  refine OW.nil ?_
  refine hK1 _ _ ?_
  refine CW.seq_k fun K2 hK2 => ?_
  refine CW.region ?_
  refine OW.q rfl rfl (yq_move rfl (by (conv => lhs; whnf) <;> rfl)) ?_
  refine OW.bytes_of rfl rfl rfl tt9 ts92 Tryd.underlying5 (by (conv => lhs; whnf) <;> rfl) (by simp only [maxLen]; omega) (fun v1 y1 hs1 => ?_)
  refine OW.slicelit (vs := [U8 128]) rfl rfl rfl rfl ts92 ti5 tz5 (by decide) rfl (by decide) (by simp [Value.cells]) (by decide) rfl (fun bl => ?_)
  refine OW.append' (news := [_]) rfl rfl rfl (by (conv => lhs; whnf) <;> rfl) hs1 (by (conv => lhs; whnf) <;> rfl) ts92 ti5 tz5 (.tail .head) (blk_cells (List.mem_cons_self ..)) rfl (by simp; rfl) rfl (by decide) (by simp only [maxLen]; omega) (by omega) (fun v' y' hs' => ?_)
  refine OW.drop ((List.sublist_cons_self _ _).cons_cons _) ?_
  refine OW.q rfl rfl (yq_assign rfl (by (conv => lhs; whnf) <;> rfl)) ?_
  refine OW.nil ?_
  refine hK2 _ _ ?_
  refine CW.seq_k fun K3 hK3 => ?_
  refine CW.block ?_
  refine CW.loop (σ := Nat) (fun z ρ L => ∃ v y, Has ρ [(0, .string (bs l)), (3, v)] ∧ Sl 5 1 v (l.length + 1 + z) (bc (l ++ [128] ++ List.replicate z 0)) y ∧ z ≤ Z ∧ L = [y]) (fun z => Z - z) (0) ?_ ?_
  · exact ⟨v', y', Has.mk ⟨(by (conv => lhs; whnf) <;> rfl), (by (conv => lhs; whnf) <;> rfl), trivial⟩, by simpa [bc, Nat.add_assoc] using hs', Nat.zero_le _, rfl⟩
  · rintro z _ _ ⟨v, y, ⟨ρ', rfl⟩, hsl, hz, rfl⟩
    obtain ⟨a, cap, rfl⟩ := hsl.len
    refine CW.seq_k fun K4 hK4 => ?_
    refine CW.seq_k fun K5 hK5 => ?_
    refine CW.region ?_
    refine OW.q rfl rfl (yq_move rfl (by (conv => lhs; whnf) <;> rfl)) ?_
    refine OW.q rfl rfl (yq_len_slice rfl ts92 (by (conv => lhs; whnf) <;> rfl)) ?_
    refine OW.q rfl rfl (yq_rem rfl (by (conv => lhs; whnf) <;> rfl) (by (conv => lhs; whnf) <;> rfl) (by omega)) ?_
    refine OW.q rfl rfl (yq_neq rfl (by (conv => lhs; whnf) <;> rfl) (by (conv => lhs; whnf) <;> rfl)) ?_
    refine OW.nil ?_
    refine hK5 _ _ ?_
    refine CW.cond_dec (by (conv => lhs; whnf) <;> rfl) (fun hc1 => ?_) (fun hc1 => ?_)
    · have hlt : z < Z := by omega
      refine CW.skip ?_
      refine hK4 _ _ ?_
      refine CW.block ?_
      refine CW.region ?_
      refine OW.q rfl rfl (yq_move rfl (by (conv => lhs; whnf) <;> rfl)) ?_
      refine OW.slicelit (vs := [U8 0]) rfl rfl rfl rfl ts92 ti5 tz5 (by decide) rfl (by decide) (by simp [Value.cells]) (by decide) rfl (fun bl => ?_)
      refine OW.append' (news := [_]) rfl rfl rfl (by (conv => lhs; whnf) <;> rfl) hsl (by (conv => lhs; whnf) <;> rfl) ts92 ti5 tz5 (.tail .head) (blk_cells (List.mem_cons_self ..)) rfl (by simp; rfl) rfl (by decide) (by simp only [maxLen]; omega) (by omega) (fun v' y' hs' => ?_)
      refine OW.drop ((List.sublist_cons_self _ _).cons_cons _) ?_
      refine OW.q rfl rfl (yq_assign rfl (by (conv => lhs; whnf) <;> rfl)) ?_
      refine OW.nil ?_
      exact ⟨z + 1, ⟨v', y', Has.mk ⟨(by (conv => lhs; whnf) <;> rfl), (by (conv => lhs; whnf) <;> rfl), trivial⟩, by rw [List.replicate_succ', ← List.append_assoc]; simpa [bc, Nat.add_assoc] using hs', by omega, rfl⟩, by omega⟩
    · have hzZ : z = Z := by omega
      clear hz hc1
      subst hzZ
      refine CW.exit ?_
      refine then_exit ?_
      refine then_exit ?_
      refine blockQ_hit ?_
      refine hK3 _ _ ?_
      refine CW.seq_k fun K6 hK6 => ?_
      refine CW.region ?_
      refine OW.q rfl rfl (yq_move rfl (by (conv => lhs; whnf) <;> rfl)) ?_
      refine OW.q rfl rfl (yq_len_bs rfl tt9 (by (conv => lhs; whnf) <;> rfl)) ?_
      refine OW.q rfl rfl (yq_conv_i64_u64 rfl Tryd.underlying3 Tryd.underlying147 (by (conv => lhs; whnf) <;> rfl) (by omega)) ?_
      refine OW.q rfl rfl (yq_mul_u64 (b := 8) rfl (by (conv => lhs; whnf) <;> rfl) (by (conv => lhs; whnf) <;> rfl)) ?_
      refine OW.q rfl rfl (yq_assign rfl (by (conv => lhs; whnf) <;> rfl)) ?_
      refine OW.nil ?_
      refine hK6 _ _ ?_
      refine CW.seq_k fun K7 hK7 => ?_
      refine CW.seq_k fun K8 hK8 => ?_
      refine CW.region ?_
      refine OW.q rfl rfl (yq_assign rfl (by (conv => lhs; whnf) <;> rfl)) ?_
      refine OW.nil ?_
      refine hK8 _ _ ?_
      refine CW.block ?_
      refine CW.loop (σ := Nat) (fun j ρ L => ∃ v y, Has ρ [(3, v), (4, U64 (UInt64.ofNat l.length * 8)), (5, .int .i64 (7 - (j : Int)))] ∧ Sl 5 1 v (l.length + 1 + z + j) (bc (l ++ [128] ++ List.replicate z 0 ++ (putB (UInt64.ofNat l.length * 8) 8).take j)) y ∧ j ≤ 8 ∧ L = [y]) (fun j => 8 - j) (0) ?_ ?_
      · exact ⟨_, y, Has.mk ⟨(by (conv => lhs; whnf) <;> rfl), (by (conv => lhs; whnf) <;> rfl), (by (conv => lhs; whnf) <;> rfl), trivial⟩, by simpa using hsl, Nat.zero_le _, rfl⟩
      · rintro j _ _ ⟨v, y, ⟨ρ', rfl⟩, hsl, hj, rfl⟩
        refine CW.seq_k fun K9 hK9 => ?_
        refine CW.seq_k fun K10 hK10 => ?_
        refine CW.region ?_
        refine OW.q rfl rfl (yq_move rfl (by (conv => lhs; whnf) <;> rfl)) ?_
        refine OW.q rfl rfl (yq_geq rfl (by (conv => lhs; whnf) <;> rfl) (by (conv => lhs; whnf) <;> rfl)) ?_
        refine OW.nil ?_
        refine hK10 _ _ ?_
        refine CW.cond_dec (by (conv => lhs; whnf) <;> rfl) (fun hc4 => ?_) (fun hc4 => ?_)
        · have hlt : j < 8 := by omega
          refine CW.skip ?_
          refine hK9 _ _ ?_
          refine CW.seq_k fun K11 hK11 => ?_
          refine CW.block ?_
          refine CW.region ?_
          refine OW.q rfl rfl (yq_move rfl (by (conv => lhs; whnf) <;> rfl)) ?_
          refine OW.q rfl rfl (yq_move rfl (by (conv => lhs; whnf) <;> rfl)) ?_
          refine OW.q rfl rfl (yq_move rfl (by (conv => lhs; whnf) <;> rfl)) ?_
          refine OW.q rfl rfl (yq_mul_e (r := ((8 * (7 - j) : Nat) : Int)) rfl (by (conv => lhs; whnf) <;> rfl) (by (conv => lhs; whnf) <;> rfl) (by rw [wrap64_in (by omega)]; omega)) ?_
          refine OW.q rfl rfl (yq_shr_u64 rfl (by (conv => lhs; whnf) <;> rfl) (by (conv => lhs; whnf) <;> rfl) (by omega)) ?_
          refine OW.q rfl rfl (yq_conv_u64_u8 rfl Tryd.underlying147 Tryd.underlying5 (by (conv => lhs; whnf) <;> rfl)) ?_
          refine OW.slicelit (vs := [U8 ((UInt64.ofNat l.length * 8) >>> UInt64.ofNat (8 * (7 - j))).toUInt8]) rfl rfl rfl rfl ts92 ti5 tz5 (by decide) rfl (by decide) (by simp [Value.cells]) (by decide) rfl (fun bl => ?_)
          refine OW.append' (news := [_]) rfl rfl rfl (by (conv => lhs; whnf) <;> rfl) hsl (by (conv => lhs; whnf) <;> rfl) ts92 ti5 tz5 (.tail .head) (blk_cells (List.mem_cons_self ..)) rfl (by simp; rfl) rfl (by decide) (by simp only [maxLen]; omega) (by omega) (fun v' y' hs' => ?_)
          refine OW.drop ((List.sublist_cons_self _ _).cons_cons _) ?_
          refine OW.q rfl rfl (yq_assign rfl (by (conv => lhs; whnf) <;> rfl)) ?_
          refine OW.nil ?_
          refine hK11 _ _ ?_
          refine CW.region ?_
          refine OW.q rfl rfl (yq_move rfl (by (conv => lhs; whnf) <;> rfl)) ?_
          refine OW.q rfl rfl (yq_sub rfl (by (conv => lhs; whnf) <;> rfl) (by (conv => lhs; whnf) <;> rfl) (by omega)) ?_
          refine OW.q rfl rfl (yq_assign rfl (by (conv => lhs; whnf) <;> rfl)) ?_
          refine OW.nil ?_
          exact ⟨j + 1, ⟨v', y', Has.mk ⟨(by (conv => lhs; whnf) <;> rfl), (by (conv => lhs; whnf) <;> rfl), by (conv => lhs; whnf); congr 1; omega, trivial⟩, by rw [putB8_at _ _ hlt, ← List.append_assoc]; simpa [bc, Nat.add_assoc] using hs', by omega, rfl⟩, by omega⟩
        · have hj8 : j = 8 := by omega
          clear hj hc4
          subst hj8
          refine CW.exit ?_
          refine then_exit ?_
          refine then_exit ?_
          refine blockQ_hit ?_
          refine hK7 _ _ ?_
          refine CW.seq_k fun K12 hK12 => ?_
          refine CW.region ?_
          refine OW.q rfl rfl (yq_move rfl (by (conv => lhs; whnf) <;> rfl)) ?_
          refine OW.q rfl rfl (yq_assign rfl (by (conv => lhs; whnf) <;> rfl)) ?_
          refine OW.nil ?_
          refine hK12 _ _ ?_
          refine CW.ret ?_
          -- ret (ret)
          have hfl : filledB l = l ++ [128] ++ List.replicate z 0 ++ (putB (UInt64.ofNat l.length * 8) 8).take 8 := by rw [List.take_of_length_le (by rw [putB_length]; exact Nat.le_refl _), hZ]; rfl
          have hln : (filledB l).length = l.length + 1 + z + 8 := by rw [hfl]; simp [putB_length]; omega
          rw [hln, hfl]
          exact fin1 (Or.inr rfl) rfl ⟨by decide, (by (conv => lhs; whnf) <;> rfl)⟩ (fun w hw => ⟨v, y, rfl, hsl, hw⟩)
end Go.Proofs.YtahdekllphehkaaDoor
namespace Go.Proofs.YtahdekllphehkaaDoor
open Go.WL Go.Spec
theorem bc_at (l : Bytes) (j : Nat) (h : j < l.length) : (bc l)[j]? = some (U8 (l.getD j 0)) := by simp [bc, List.getD_eq_getElem?_getD, h]
/-- The schedule's array behind so many words, over what was there. -/
def schedB (blk : Bytes) (ws : List UInt32) (k : Nat) : List UInt32 := sched blk k ++ ws.drop k
theorem schedB_length (blk : Bytes) (ws : List UInt32) (k : Nat) (h : k ≤ 64) (hw : ws.length = 64) : (schedB blk ws k).length = 64 := by simp [schedB, sched_length]; omega
theorem schedB_at (blk : Bytes) (ws : List UInt32) (k j : Nat) (h : j < k) (hk : k ≤ 64) : ((schedB blk ws k).map U32)[j]? = some (U32 ((sched blk k).getD j 0)) := by
  have hl := sched_length blk k
  rw [List.getElem?_map, schedB, List.getElem?_append_left (by omega)]
  simp [List.getD_eq_getElem?_getD, hl, h]
theorem schedB_spl (blk : Bytes) (ws : List UInt32) (k : Nat) (h : k < 64) (hw : ws.length = 64) (x : UInt32) (hx : x = nextW blk (sched blk k)) : spl ((schedB blk ws k).map U32) k [U32 x] = (schedB blk ws (k + 1)).map U32 := by
  have hl := sched_length blk k
  subst hx
  unfold spl schedB
  rw [List.map_append, List.take_left' (by simp [hl]), sched_succ]
  show _ ++ List.drop (k + 1) _ = _
  have : (List.map U32 (sched blk k) ++ List.map U32 (ws.drop k)).drop (k + 1) = List.map U32 (ws.drop (k + 1)) := by
    rw [← List.drop_drop, List.drop_left' (by simp [hl]), ← List.map_drop, List.drop_drop]
  rw [this]
  simp
attribute [irreducible] schedB
theorem get4 (F : Bytes) (j : Nat) (h : j + 4 ≤ F.length) : (getB ((F.drop j).take 4)).toUInt32 = (F.getD j 0).toUInt32 <<< UInt32.ofNat 24 + (F.getD (j + 1) 0).toUInt32 <<< UInt32.ofNat 16 + (F.getD (j + 2) 0).toUInt32 <<< UInt32.ofNat 8 + (F.getD (j + 3) 0).toUInt32 := by
  have e : (F.drop j).take 4 = [F.getD j 0, F.getD (j + 1) 0, F.getD (j + 2) 0, F.getD (j + 3) 0] := by
    apply List.ext_getElem?
    intro i
    rcases Nat.lt_or_ge i 4 with hi | hi
    · rw [List.getElem?_take_of_lt hi, List.getElem?_drop]
      have : i = 0 ∨ i = 1 ∨ i = 2 ∨ i = 3 := by omega
      rcases this with rfl | rfl | rfl | rfl <;> simp [List.getD_eq_getElem?_getD] <;> rw [List.getElem?_eq_getElem (by omega)] <;> rfl
    · rw [List.getElem?_eq_none (by simp; omega), List.getElem?_eq_none (by simp; omega)]
  rw [e]
  generalize F.getD j 0 = a
  generalize F.getD (j + 1) 0 = b
  generalize F.getD (j + 2) 0 = c
  generalize F.getD (j + 3) 0 = d
  apply UInt32.toNat_inj.1
  have ha := a.toNat_lt
  have hb := b.toNat_lt
  have hc := c.toNat_lt
  have hd := d.toNat_lt
  simp [getB, Nat.shiftLeft_eq]
  omega
theorem put4 (n : UInt32) : putB n.toUInt64 4 = [(n >>> UInt32.ofNat 24).toUInt8, (n >>> UInt32.ofNat 16).toUInt8, (n >>> UInt32.ofNat 8).toUInt8, (n >>> UInt32.ofNat 0).toUInt8] := by
  simp only [putB, List.nil_append, List.cons_append, List.cons.injEq, and_true]
  refine ⟨?_, ?_, ?_, ?_⟩ <;> (apply UInt8.toNat_inj.1; simp [← Nat.shiftRight_add])
theorem outB_map (v : S8) : outB v = (List.range 32).map fun i => (v.l.getD (i / 4) 0 >>> UInt32.ofNat (24 - 8 * (i % 4))).toUInt8 := by
  unfold outB S8.l
  simp only [List.flatMap_cons, List.flatMap_nil, put4]
  rfl
def outI (B : Bytes) (i : Nat) : List Value := bc (B.take i) ++ List.replicate (32 - i) (.int .u8 0)
theorem outI_length (B : Bytes) (hB : B.length = 32) (i : Nat) (h : i ≤ 32) : (outI B i).length = 32 := by simp [outI, hB]; omega
theorem outI_full (B : Bytes) (hB : B.length = 32) : outI B 32 = bc B := by simp [outI, List.take_of_length_le (Nat.le_of_eq hB)]
theorem outI_spl (B : Bytes) (hB : B.length = 32) (i : Nat) (h : i < 32) (x : UInt8) (hx : B.getD i 0 = x) : spl (outI B i) i [U8 x] = outI B (i + 1) := by
  subst hx
  obtain ⟨m, hm⟩ : ∃ m, 32 - i = m + 1 := ⟨32 - i - 1, by omega⟩
  have hm' : 32 - (i + 1) = m := by omega
  have hl : (bc (B.take i)).length = i := by simp [hB]; omega
  unfold spl outI
  rw [hm, hm', List.take_left' hl, List.replicate_succ]
  show _ ++ List.drop (i + 1) _ = _
  have e : (bc (B.take i) ++ Value.int .u8 0 :: List.replicate m (Value.int .u8 0)).drop (i + 1) = List.replicate m (Value.int .u8 0) := by
    rw [List.append_cons]
    exact List.drop_left' (by rw [List.length_append, hl]; rfl)
  have eg : B.getD i 0 = B[i]'(by omega) := by simp [List.getD_eq_getElem?_getD, show i < B.length by omega]
  rw [e, List.take_succ_eq_append_getElem (show i < B.length by omega), eg]
  simp only [bc, List.map_append, List.map_cons, List.map_nil]
theorem hc_sha (l : Bytes) : hc (sha l) = bc (outB (blocks8 firstS ((filledB l).length / 64) (filledB l))) := by
  unfold sha
  rw [hc_hashOf]
theorem mix8_eq (v : S8) (b : Bytes) : mix8 v b = add8 (rounds8 (sched b 64) v 64) v := rfl
theorem add8_comm (v u : S8) : (add8 u v).l = [v.a + u.a, v.b + u.b, v.c + u.c, v.d + u.d, v.e + u.e, v.f + u.f, v.g + u.g, v.h + u.h] := by
  simp [add8, S8.l, UInt32.add_comm]
attribute [irreducible] outI
theorem add_rc (a s b t : UInt32) : a + s + b + t = a + b + s + t := by rw [UInt32.add_assoc a, UInt32.add_comm s b, ← UInt32.add_assoc]
theorem h1off (i : Nat) : 0 + (i : Int).toNat * 1 = i := by omega
theorem filled_pos (l : Bytes) : 0 < (filledB l).length := by simp [filledB, putB_length]; omega
theorem schedB_zero (blk : Bytes) (ws : List UInt32) : schedB blk ws 0 = ws := by unfold schedB; rw [sched_zero]; rfl
theorem outI_zero (B : Bytes) : outI B 0 = List.replicate 32 (.int .u8 0) := by unfold outI; rfl
theorem outB_at (v : S8) (i : Nat) (h : i < 32) : (outB v).getD i 0 = (v.l.getD (i / 4) 0 >>> UInt32.ofNat (24 - 8 * (i % 4))).toUInt8 := by
  rw [outB_map, List.getD_eq_getElem?_getD, List.getElem?_map, List.getElem?_range h]; rfl
theorem yq_conv_u32_u8 {P : Program} {n : Nat} {w0 : World} {E : List Nat} {o : Oper} {ρ : Nat → Value} {L : List Ent} {s t : TypeId} {d : TypeDesc} {x : Operand} {a : UInt32} (h : o.op = .convert s t x) (hs : P.underlying s = some d) (ht : P.underlying t = some (.int .u8)) (hx : ev n ρ x = U32 a) : Yq P n w0 E o ρ L (U8 a.toUInt8) :=
  yq_conv_int h hs ht hx (by rw [wrap_u8]; simp)
set_option maxRecDepth 100000 in
set_option maxHeartbeats 1000000 in
theorem refsum_calls (l : Bytes) (w : World) (hs : l.length ≤ 4294967296) :
    Calls Tryd.prog 102 #[.string (bs l)] w fun e w' => e = .returned (HV (sha l)) ∧ Cl w [] [] w' := by
  obtain ⟨F, hF0⟩ : ∃ F, F = filledB l := ⟨_, rfl⟩
  obtain ⟨N, hN⟩ : ∃ N, N = F.length / 64 := ⟨_, rfl⟩
  have hF : F.length = 64 * N := by rw [hN, hF0]; exact filledB_length l
  have hFp : 0 < F.length := by rw [hF0]; exact filled_pos l
  have hFs : F.length ≤ 4294967500 := by rw [hF0]; simp [filledB, putB_length]; omega
  obtain ⟨B, hB0⟩ : ∃ B, B = outB (blocks8 firstS N F) := ⟨_, rfl⟩
  have hB : B.length = 32 := by rw [hB0]; exact outB_length _
  have hsha : hc (sha l) = bc B := by rw [hc_sha, hB0, hN, hF0]
  have hpad : ∀ w, Calls Tryd.prog 147 #[.string (bs l)] w fun e w' => ∃ v L1, e = .returned v ∧ Cl w [] L1 w' ∧ ∃ y, L1 = [y] ∧ Sl 5 1 v F.length (bc F) y := by
    intro w
    refine (pad_calls l w hs).mono fun e w' ⟨v, y, h1, h2, h3⟩ => ⟨v, [y], h1, h3, y, rfl, ?_⟩
    rw [hF0]
    exact h2
  refine calls_of_CW (L := []) Tryd.func102 rfl (Nat.le_of_ble_eq_true rfl) (Cl.refl _) ?_
  refine CW.seq_k fun K1 hK1 => ?_
  refine CW.region ?_
  refine OW.alloc rfl rfl rfl tz25 (fun b2 => ?_)
  refine OW.nil ?_
  refine hK1 _ _ ?_
  refine CW.seq_k fun K2 hK2 => ?_
  refine CW.region ?_
  refine OW.q rfl rfl (yq_build (cs := roundKs.map U32) rfl rfl (by kernel_rfl)) ?_
  refine OW.alloc rfl rfl rfl tz190 (fun b3 => ?_)
  refine OW.store' rfl rfl rfl (by (conv => lhs; whnf) <;> rfl) (by (conv => lhs; whnf) <;> rfl) (vs := roundKs.map U32) ti190 rfl (U32_one _) .head (spl_all _ _ rfl) (by decide) ?_
  refine OW.nil ?_
  refine hK2 _ _ ?_
  refine CW.seq_k fun K3 hK3 => ?_
  refine CW.region ?_
  refine OW.q rfl rfl (yq_build (cs := firstS.l.map U32) rfl rfl (by kernel_rfl)) ?_
  refine OW.alloc rfl rfl rfl tz188 (fun b4 => ?_)
  refine OW.store' rfl rfl rfl (by (conv => lhs; whnf) <;> rfl) (by (conv => lhs; whnf) <;> rfl) (vs := firstS.l.map U32) ti188 rfl (U32_one _) .head (spl_all _ _ rfl) (by decide) ?_
  refine OW.nil ?_
  refine hK3 _ _ ?_
  refine CW.seq_k fun K4 hK4 => ?_
  refine CW.region ?_
  refine OW.q rfl rfl (yq_move rfl (by (conv => lhs; whnf) <;> rfl)) ?_
  refine OW.calln rfl rfl rfl (by (conv => lhs; whnf) <;> rfl) (.cons (by (conv => lhs; whnf) <;> rfl) .nil) en147 (fun w hw => hpad w) ?_
  rintro pv _ ⟨y, rfl, hsl⟩
  refine OW.know (∃ pb cap, pv = .slice (some ⟨pb, 0, none⟩) F.length cap) (fun w hw => hsl.isSlice hFp (hw.own y (List.mem_cons_self ..))) ?_
  rintro ⟨pb, cap, rfl⟩
  have hpb : ∀ w, y.ok w → ∀ j u, (bc F)[j]? = some u → w.cell? ⟨pb, j, none⟩ = some u := fun w hw => hsl.at hw
  refine OW.q rfl rfl (yq_assign rfl (by (conv => lhs; whnf) <;> rfl)) ?_
  refine OW.nil ?_
  refine hK4 _ _ ?_
  refine CW.seq_k fun K5 hK5 => ?_
  refine CW.region ?_
  refine OW.alloc rfl rfl rfl tz190 (fun b6 => ?_)
  refine OW.nil ?_
  refine hK5 _ _ ?_
  refine CW.seq_k fun K6 hK6 => ?_
  refine CW.seq_k fun K7 hK7 => ?_
  refine CW.region ?_
  refine OW.q rfl rfl (yq_assign rfl (by (conv => lhs; whnf) <;> rfl)) ?_
  refine OW.nil ?_
  refine hK7 _ _ ?_
  refine CW.block ?_
  refine CW.loop (σ := Nat × S8 × List UInt32) (fun p ρ L => Has ρ [(2, .pointer (some ⟨b2, 0, none⟩)), (3, .pointer (some ⟨b3, 0, none⟩)), (4, .pointer (some ⟨b4, 0, none⟩)), (5, .slice (some ⟨pb, 0, none⟩) F.length cap), (6, .pointer (some ⟨b6, 0, none⟩)), (7, .int .i64 (64 * (p.1 : Int)))] ∧ p.1 ≤ N ∧ p.2.2.length = 64 ∧ blocks8 p.2.1 (N - p.1) (F.drop (64 * p.1)) = blocks8 firstS N F ∧ L = [.blk b6 (p.2.2.map U32) 190 (0, 0), y, .blk b4 (p.2.1.l.map U32) 188 (0, 0), .blk b3 (roundKs.map U32) 190 (0, 0), .blk b2 (hc zeroHash) 25 (0, 0)]) (fun p => N - p.1) ((0, firstS, List.replicate 64 0)) ?_ ?_
  · exact ⟨Has.mk ⟨(by (conv => lhs; whnf) <;> rfl), (by (conv => lhs; whnf) <;> rfl), (by (conv => lhs; whnf) <;> rfl), (by (conv => lhs; whnf) <;> rfl), (by (conv => lhs; whnf) <;> rfl), (by (conv => lhs; whnf) <;> rfl), trivial⟩, Nat.zero_le _, rfl, rfl, by rw [hc_zero, List.map_replicate]; rfl⟩
  · rintro ⟨k, v, ws0⟩ _ _ ⟨⟨ρ', rfl⟩, hk, hws0, hb, rfl⟩
    refine CW.seq_k fun K8 hK8 => ?_
    refine CW.seq_k fun K9 hK9 => ?_
    refine CW.region ?_
    refine OW.q rfl rfl (yq_move rfl (by (conv => lhs; whnf) <;> rfl)) ?_
    refine OW.q rfl rfl (yq_move rfl (by (conv => lhs; whnf) <;> rfl)) ?_
    refine OW.q rfl rfl (yq_len_slice rfl ts92 (by (conv => lhs; whnf) <;> rfl)) ?_
    refine OW.q rfl rfl (yq_lss rfl (by (conv => lhs; whnf) <;> rfl) (by (conv => lhs; whnf) <;> rfl)) ?_
    refine OW.nil ?_
    refine hK9 _ _ ?_
    refine CW.cond_dec (by (conv => lhs; whnf) <;> rfl) (fun hc1 => ?_) (fun hc1 => ?_)
    · have hlt : k < N := by omega
      have h64 := take64 hF hlt
      obtain ⟨X, hX⟩ : ∃ X, X = (F.drop (64 * k)).take 64 := ⟨_, rfl⟩
      obtain ⟨v2, hv2⟩ : ∃ v2, v2 = mix8 v X := ⟨_, rfl⟩
      obtain ⟨ws, hwse⟩ : ∃ ws, ws = ws0 := ⟨_, rfl⟩
      have hws : ws.length = 64 := by rw [hwse]; exact hws0
      refine CW.skip ?_
      refine hK8 _ _ ?_
      refine CW.seq_k fun K10 hK10 => ?_
      refine CW.block ?_
      refine CW.seq_k fun K11 hK11 => ?_
      refine CW.seq_k fun K12 hK12 => ?_
      refine CW.region ?_
      refine OW.q rfl rfl (yq_assign rfl (by (conv => lhs; whnf) <;> rfl)) ?_
      refine OW.nil ?_
      refine hK12 _ _ ?_
      refine CW.block ?_
      refine CW.loop (σ := Nat) (fun i ρ L => Has ρ [(2, .pointer (some ⟨b2, 0, none⟩)), (3, .pointer (some ⟨b3, 0, none⟩)), (4, .pointer (some ⟨b4, 0, none⟩)), (5, .slice (some ⟨pb, 0, none⟩) F.length cap), (6, .pointer (some ⟨b6, 0, none⟩)), (7, .int .i64 (64 * (k : Int))), (8, .int .i64 (i : Int))] ∧ i ≤ 16 ∧ L = [.blk b6 ((schedB X ws i).map U32) 190 (0, 0), y, .blk b4 (v.l.map U32) 188 (0, 0), .blk b3 (roundKs.map U32) 190 (0, 0), .blk b2 (hc zeroHash) 25 (0, 0)]) (fun i => 16 - i) (0) ?_ ?_
      · exact ⟨Has.mk ⟨(by (conv => lhs; whnf) <;> rfl), (by (conv => lhs; whnf) <;> rfl), (by (conv => lhs; whnf) <;> rfl), (by (conv => lhs; whnf) <;> rfl), (by (conv => lhs; whnf) <;> rfl), (by (conv => lhs; whnf) <;> rfl), (by (conv => lhs; whnf) <;> rfl), trivial⟩, Nat.zero_le _, by rw [schedB_zero, hwse]⟩
      · rintro i _ _ ⟨⟨ρ', rfl⟩, hi, rfl⟩
        have eI := h1off i
        refine CW.seq_k fun K13 hK13 => ?_
        refine CW.seq_k fun K14 hK14 => ?_
        refine CW.region ?_
        refine OW.q rfl rfl (yq_move rfl (by (conv => lhs; whnf) <;> rfl)) ?_
        refine OW.q rfl rfl (yq_lss rfl (by (conv => lhs; whnf) <;> rfl) (by (conv => lhs; whnf) <;> rfl)) ?_
        refine OW.nil ?_
        refine hK14 _ _ ?_
        refine CW.cond_dec (by (conv => lhs; whnf) <;> rfl) (fun hc4 => ?_) (fun hc4 => ?_)
        · refine CW.skip ?_
          refine hK13 _ _ ?_
          refine CW.seq_k fun K15 hK15 => ?_
          refine CW.block ?_
          refine CW.seq_k fun K16 hK16 => ?_
          refine CW.region ?_
          refine OW.q rfl rfl (yq_move rfl (by (conv => lhs; whnf) <;> rfl)) ?_
          refine OW.q rfl rfl (yq_move rfl (by (conv => lhs; whnf) <;> rfl)) ?_
          refine OW.q rfl rfl (yq_mul rfl (by (conv => lhs; whnf) <;> rfl) (by (conv => lhs; whnf) <;> rfl) (by omega)) ?_
          refine OW.q rfl rfl (yq_add rfl (by (conv => lhs; whnf) <;> rfl) (by (conv => lhs; whnf) <;> rfl) (by omega)) ?_
          refine OW.q rfl rfl (yq_assign rfl (by (conv => lhs; whnf) <;> rfl)) ?_
          refine OW.nil ?_
          refine hK16 _ _ ?_
          refine CW.drawT 31 mixed (by kernel_rfl) ?_
          refine QW.q rfl rfl (yq_move rfl (by (conv => lhs; whnf) <;> rfl)) ?_
          refine QW.q rfl rfl (yq_move rfl (by (conv => lhs; whnf) <;> rfl)) ?_
          refine QW.q rfl rfl (yq_move rfl (by (conv => lhs; whnf) <;> rfl)) ?_
          refine QW.q rfl rfl (yq_index_slice rfl (by (conv => lhs; whnf) <;> rfl) (by (conv => lhs; whnf) <;> rfl) ts92 ti5 (by omega) (by omega)) ?_
          refine QW.q rfl rfl (yq_load_c (v := U8 (F.getD (64 * k + 4 * i + 0) 0)) rfl (by (conv => lhs; whnf) <;> rfl) (fun w hw => run_load_one ti5 (hpb w (hw.own y (List.mem_cons_of_mem _ (List.mem_cons_self ..))) _ _ (by rw [show 0 + ((64 * (k : Int) + 4 * (i : Int))).toNat * 1 = 64 * k + 4 * i + 0 by omega]; exact bc_at F _ (by omega))))) ?_
          refine QW.q rfl rfl (yq_conv_u8_u32 rfl Tryd.underlying5 Tryd.underlying187 (by (conv => lhs; whnf) <;> rfl)) ?_
          refine QW.q rfl rfl (yq_shl_u32 (s := 24) rfl (by (conv => lhs; whnf) <;> rfl) (by (conv => lhs; whnf) <;> rfl) (by decide)) ?_
          refine QW.q rfl rfl (yq_move rfl (by (conv => lhs; whnf) <;> rfl)) ?_
          refine QW.q rfl rfl (yq_move rfl (by (conv => lhs; whnf) <;> rfl)) ?_
          refine QW.q rfl rfl (yq_add rfl (by (conv => lhs; whnf) <;> rfl) (by (conv => lhs; whnf) <;> rfl) (by omega)) ?_
          refine QW.q rfl rfl (yq_index_slice rfl (by (conv => lhs; whnf) <;> rfl) (by (conv => lhs; whnf) <;> rfl) ts92 ti5 (by omega) (by omega)) ?_
          refine QW.q rfl rfl (yq_load_c (v := U8 (F.getD (64 * k + 4 * i + 1) 0)) rfl (by (conv => lhs; whnf) <;> rfl) (fun w hw => run_load_one ti5 (hpb w (hw.own y (List.mem_cons_of_mem _ (List.mem_cons_self ..))) _ _ (by rw [show 0 + ((64 * (k : Int) + 4 * (i : Int) + 1)).toNat * 1 = 64 * k + 4 * i + 1 by omega]; exact bc_at F _ (by omega))))) ?_
          refine QW.q rfl rfl (yq_conv_u8_u32 rfl Tryd.underlying5 Tryd.underlying187 (by (conv => lhs; whnf) <;> rfl)) ?_
          refine QW.q rfl rfl (yq_shl_u32 (s := 16) rfl (by (conv => lhs; whnf) <;> rfl) (by (conv => lhs; whnf) <;> rfl) (by decide)) ?_
          refine QW.q rfl rfl (yq_add_u32 rfl (by (conv => lhs; whnf) <;> rfl) (by (conv => lhs; whnf) <;> rfl)) ?_
          refine QW.q rfl rfl (yq_move rfl (by (conv => lhs; whnf) <;> rfl)) ?_
          refine QW.q rfl rfl (yq_move rfl (by (conv => lhs; whnf) <;> rfl)) ?_
          refine QW.q rfl rfl (yq_add rfl (by (conv => lhs; whnf) <;> rfl) (by (conv => lhs; whnf) <;> rfl) (by omega)) ?_
          refine QW.q rfl rfl (yq_index_slice rfl (by (conv => lhs; whnf) <;> rfl) (by (conv => lhs; whnf) <;> rfl) ts92 ti5 (by omega) (by omega)) ?_
          refine QW.q rfl rfl (yq_load_c (v := U8 (F.getD (64 * k + 4 * i + 2) 0)) rfl (by (conv => lhs; whnf) <;> rfl) (fun w hw => run_load_one ti5 (hpb w (hw.own y (List.mem_cons_of_mem _ (List.mem_cons_self ..))) _ _ (by rw [show 0 + ((64 * (k : Int) + 4 * (i : Int) + 2)).toNat * 1 = 64 * k + 4 * i + 2 by omega]; exact bc_at F _ (by omega))))) ?_
          refine QW.q rfl rfl (yq_conv_u8_u32 rfl Tryd.underlying5 Tryd.underlying187 (by (conv => lhs; whnf) <;> rfl)) ?_
          refine QW.q rfl rfl (yq_shl_u32 (s := 8) rfl (by (conv => lhs; whnf) <;> rfl) (by (conv => lhs; whnf) <;> rfl) (by decide)) ?_
          refine QW.q rfl rfl (yq_add_u32 rfl (by (conv => lhs; whnf) <;> rfl) (by (conv => lhs; whnf) <;> rfl)) ?_
          refine QW.q rfl rfl (yq_move rfl (by (conv => lhs; whnf) <;> rfl)) ?_
          refine QW.q rfl rfl (yq_move rfl (by (conv => lhs; whnf) <;> rfl)) ?_
          refine QW.q rfl rfl (yq_add rfl (by (conv => lhs; whnf) <;> rfl) (by (conv => lhs; whnf) <;> rfl) (by omega)) ?_
          refine QW.q rfl rfl (yq_index_slice rfl (by (conv => lhs; whnf) <;> rfl) (by (conv => lhs; whnf) <;> rfl) ts92 ti5 (by omega) (by omega)) ?_
          refine QW.q rfl rfl (yq_load_c (v := U8 (F.getD (64 * k + 4 * i + 3) 0)) rfl (by (conv => lhs; whnf) <;> rfl) (fun w hw => run_load_one ti5 (hpb w (hw.own y (List.mem_cons_of_mem _ (List.mem_cons_self ..))) _ _ (by rw [show 0 + ((64 * (k : Int) + 4 * (i : Int) + 3)).toNat * 1 = 64 * k + 4 * i + 3 by omega]; exact bc_at F _ (by omega))))) ?_
          refine QW.q rfl rfl (yq_conv_u8_u32 rfl Tryd.underlying5 Tryd.underlying187 (by (conv => lhs; whnf) <;> rfl)) ?_
          refine QW.q rfl rfl (yq_add_u32 rfl (by (conv => lhs; whnf) <;> rfl) (by (conv => lhs; whnf) <;> rfl)) ?_
          refine QW.q rfl rfl (yq_index_arr rfl (by (conv => lhs; whnf) <;> rfl) (by (conv => lhs; whnf) <;> rfl) ta190 ti187 (by omega) (by omega)) ?_
          refine QW.nil ?_
          refine OW.store1 rfl rfl rfl (by (conv => lhs; whnf) <;> rfl) (by (conv => lhs; whnf) <;> rfl) ti187 rfl .head (spl_at eI (schedB_spl X ws i (by omega) hws _ (by rw [nextW, sched_length, if_pos (by omega), hX, List.drop_take, List.take_take, List.drop_drop, show min 4 (64 - 4 * i) = 4 by omega, get4 F (64 * k + 4 * i) (by omega), Nat.add_zero]))) (by rw [List.length_map, schedB_length _ _ _ (by omega) hws]; omega) ?_
          refine OW.nil ?_
          refine hK15 _ _ ?_
          refine CW.region ?_
          refine OW.q rfl rfl (yq_move rfl (by (conv => lhs; whnf) <;> rfl)) ?_
          refine OW.q rfl rfl (yq_add rfl (by (conv => lhs; whnf) <;> rfl) (by (conv => lhs; whnf) <;> rfl) (by omega)) ?_
          refine OW.q rfl rfl (yq_assign rfl (by (conv => lhs; whnf) <;> rfl)) ?_
          refine OW.nil ?_
          exact ⟨i + 1, ⟨Has.mk ⟨(by (conv => lhs; whnf) <;> rfl), (by (conv => lhs; whnf) <;> rfl), (by (conv => lhs; whnf) <;> rfl), (by (conv => lhs; whnf) <;> rfl), (by (conv => lhs; whnf) <;> rfl), (by (conv => lhs; whnf) <;> rfl), (by (conv => lhs; whnf) <;> rfl), trivial⟩, by omega, rfl⟩, by omega⟩
        · have hi16 : i = 16 := by omega
          clear hi hc4 eI
          subst hi16
          refine CW.exit ?_
          refine then_exit ?_
          refine then_exit ?_
          refine blockQ_hit ?_
          refine hK11 _ _ ?_
          refine CW.seq_k fun K17 hK17 => ?_
          refine CW.seq_k fun K18 hK18 => ?_
          refine CW.region ?_
          refine OW.q rfl rfl (yq_assign rfl (by (conv => lhs; whnf) <;> rfl)) ?_
          refine OW.nil ?_
          refine hK18 _ _ ?_
          refine CW.block ?_
          refine CW.loop (σ := Nat) (fun i ρ L => Has ρ [(2, .pointer (some ⟨b2, 0, none⟩)), (3, .pointer (some ⟨b3, 0, none⟩)), (4, .pointer (some ⟨b4, 0, none⟩)), (5, .slice (some ⟨pb, 0, none⟩) F.length cap), (6, .pointer (some ⟨b6, 0, none⟩)), (7, .int .i64 (64 * (k : Int))), (10, .int .i64 (i : Int))] ∧ 16 ≤ i ∧ i ≤ 64 ∧ L = [.blk b6 ((schedB X ws i).map U32) 190 (0, 0), y, .blk b4 (v.l.map U32) 188 (0, 0), .blk b3 (roundKs.map U32) 190 (0, 0), .blk b2 (hc zeroHash) 25 (0, 0)]) (fun i => 64 - i) (16) ?_ ?_
          · exact ⟨Has.mk ⟨(by (conv => lhs; whnf) <;> rfl), (by (conv => lhs; whnf) <;> rfl), (by (conv => lhs; whnf) <;> rfl), (by (conv => lhs; whnf) <;> rfl), (by (conv => lhs; whnf) <;> rfl), (by (conv => lhs; whnf) <;> rfl), (by (conv => lhs; whnf) <;> rfl), trivial⟩, Nat.le_refl _, by decide, rfl⟩
          · rintro i _ _ ⟨⟨ρ', rfl⟩, hi16, hi, rfl⟩
            have eI := h1off i
            refine CW.seq_k fun K19 hK19 => ?_
            refine CW.seq_k fun K20 hK20 => ?_
            refine CW.region ?_
            refine OW.q rfl rfl (yq_move rfl (by (conv => lhs; whnf) <;> rfl)) ?_
            refine OW.q rfl rfl (yq_lss rfl (by (conv => lhs; whnf) <;> rfl) (by (conv => lhs; whnf) <;> rfl)) ?_
            refine OW.nil ?_
            refine hK20 _ _ ?_
            refine CW.cond_dec (by (conv => lhs; whnf) <;> rfl) (fun hc7 => ?_) (fun hc7 => ?_)
            · refine CW.skip ?_
              refine hK19 _ _ ?_
              refine CW.seq_k fun K21 hK21 => ?_
              refine CW.block ?_
              refine CW.seq_k fun K22 hK22 => ?_
              refine CW.draw mixed (by kernel_rfl) ?_
              refine QW.q rfl rfl (yq_move rfl (by (conv => lhs; whnf) <;> rfl)) ?_
              refine QW.q rfl rfl (yq_sub rfl (by (conv => lhs; whnf) <;> rfl) (by (conv => lhs; whnf) <;> rfl) (by omega)) ?_
              refine QW.q rfl rfl (yq_index_arr rfl (by (conv => lhs; whnf) <;> rfl) (by (conv => lhs; whnf) <;> rfl) ta190 ti187 (by omega) (by omega)) ?_
              refine QW.q rfl rfl (yq_load1 rfl (by (conv => lhs; whnf) <;> rfl) ti187 (List.mem_cons_self ..) (by rw [show 0 + ((i : Int) - 15).toNat * 1 = i - 15 by omega]; exact schedB_at _ _ _ _ (by omega) (by omega))) ?_
              refine QW.q rfl rfl (yq_move rfl (by (conv => lhs; whnf) <;> rfl)) ?_
              refine QW.q rfl rfl (yq_sub rfl (by (conv => lhs; whnf) <;> rfl) (by (conv => lhs; whnf) <;> rfl) (by omega)) ?_
              refine QW.q rfl rfl (yq_index_arr rfl (by (conv => lhs; whnf) <;> rfl) (by (conv => lhs; whnf) <;> rfl) ta190 ti187 (by omega) (by omega)) ?_
              refine QW.q rfl rfl (yq_load1 rfl (by (conv => lhs; whnf) <;> rfl) ti187 (List.mem_cons_self ..) (by rw [show 0 + ((i : Int) - 2).toNat * 1 = i - 2 by omega]; exact schedB_at _ _ _ _ (by omega) (by omega))) ?_
              refine QW.q rfl rfl (yq_assign rfl (by (conv => lhs; whnf) <;> rfl)) ?_
              refine QW.q rfl rfl (yq_assign rfl (by (conv => lhs; whnf) <;> rfl)) ?_
              refine QW.nil ?_
              refine hK22 _ _ ?_
              refine CW.drawT 29 mixed (by kernel_rfl) ?_
              refine QW.q rfl rfl (yq_move rfl (by (conv => lhs; whnf) <;> rfl)) ?_
              refine QW.q rfl rfl (yq_move rfl (by (conv => lhs; whnf) <;> rfl)) ?_
              refine QW.q rfl rfl (yq_sub rfl (by (conv => lhs; whnf) <;> rfl) (by (conv => lhs; whnf) <;> rfl) (by omega)) ?_
              refine QW.q rfl rfl (yq_index_arr rfl (by (conv => lhs; whnf) <;> rfl) (by (conv => lhs; whnf) <;> rfl) ta190 ti187 (by omega) (by omega)) ?_
              refine QW.q rfl rfl (yq_load1 rfl (by (conv => lhs; whnf) <;> rfl) ti187 (List.mem_cons_self ..) (by rw [show 0 + ((i : Int) - 16).toNat * 1 = i - 16 by omega]; exact schedB_at _ _ _ _ (by omega) (by omega))) ?_
              refine QW.q rfl rfl (yq_move rfl (by (conv => lhs; whnf) <;> rfl)) ?_
              refine QW.q rfl rfl (yq_call rfl rfl (.cons (by (conv => lhs; whnf) <;> rfl) ( .cons (by (conv => lhs; whnf) <;> rfl) .nil)) en148 (fun w hw => turn_calls _ 7 w (by decide) (by decide))) ?_
              refine QW.q rfl rfl (yq_move rfl (by (conv => lhs; whnf) <;> rfl)) ?_
              refine QW.q rfl rfl (yq_call rfl rfl (.cons (by (conv => lhs; whnf) <;> rfl) ( .cons (by (conv => lhs; whnf) <;> rfl) .nil)) en148 (fun w hw => turn_calls _ 18 w (by decide) (by decide))) ?_
              refine QW.q rfl rfl (yq_xor_u32 rfl (by (conv => lhs; whnf) <;> rfl) (by (conv => lhs; whnf) <;> rfl)) ?_
              refine QW.q rfl rfl (yq_move rfl (by (conv => lhs; whnf) <;> rfl)) ?_
              refine QW.q rfl rfl (yq_shr_u32 (s := 3) rfl (by (conv => lhs; whnf) <;> rfl) (by (conv => lhs; whnf) <;> rfl) (by decide)) ?_
              refine QW.q rfl rfl (yq_xor_u32 rfl (by (conv => lhs; whnf) <;> rfl) (by (conv => lhs; whnf) <;> rfl)) ?_
              refine QW.q rfl rfl (yq_add_u32 rfl (by (conv => lhs; whnf) <;> rfl) (by (conv => lhs; whnf) <;> rfl)) ?_
              refine QW.q rfl rfl (yq_move rfl (by (conv => lhs; whnf) <;> rfl)) ?_
              refine QW.q rfl rfl (yq_sub rfl (by (conv => lhs; whnf) <;> rfl) (by (conv => lhs; whnf) <;> rfl) (by omega)) ?_
              refine QW.q rfl rfl (yq_index_arr rfl (by (conv => lhs; whnf) <;> rfl) (by (conv => lhs; whnf) <;> rfl) ta190 ti187 (by omega) (by omega)) ?_
              refine QW.q rfl rfl (yq_load1 rfl (by (conv => lhs; whnf) <;> rfl) ti187 (List.mem_cons_self ..) (by rw [show 0 + ((i : Int) - 7).toNat * 1 = i - 7 by omega]; exact schedB_at _ _ _ _ (by omega) (by omega))) ?_
              refine QW.q rfl rfl (yq_add_u32 rfl (by (conv => lhs; whnf) <;> rfl) (by (conv => lhs; whnf) <;> rfl)) ?_
              refine QW.q rfl rfl (yq_move rfl (by (conv => lhs; whnf) <;> rfl)) ?_
              refine QW.q rfl rfl (yq_call rfl rfl (.cons (by (conv => lhs; whnf) <;> rfl) ( .cons (by (conv => lhs; whnf) <;> rfl) .nil)) en148 (fun w hw => turn_calls _ 17 w (by decide) (by decide))) ?_
              refine QW.q rfl rfl (yq_move rfl (by (conv => lhs; whnf) <;> rfl)) ?_
              refine QW.q rfl rfl (yq_call rfl rfl (.cons (by (conv => lhs; whnf) <;> rfl) ( .cons (by (conv => lhs; whnf) <;> rfl) .nil)) en148 (fun w hw => turn_calls _ 19 w (by decide) (by decide))) ?_
              refine QW.q rfl rfl (yq_xor_u32 rfl (by (conv => lhs; whnf) <;> rfl) (by (conv => lhs; whnf) <;> rfl)) ?_
              refine QW.q rfl rfl (yq_move rfl (by (conv => lhs; whnf) <;> rfl)) ?_
              refine QW.q rfl rfl (yq_shr_u32 (s := 10) rfl (by (conv => lhs; whnf) <;> rfl) (by (conv => lhs; whnf) <;> rfl) (by decide)) ?_
              refine QW.q rfl rfl (yq_xor_u32 rfl (by (conv => lhs; whnf) <;> rfl) (by (conv => lhs; whnf) <;> rfl)) ?_
              refine QW.q rfl rfl (yq_add_u32 rfl (by (conv => lhs; whnf) <;> rfl) (by (conv => lhs; whnf) <;> rfl)) ?_
              refine QW.q rfl rfl (yq_index_arr rfl (by (conv => lhs; whnf) <;> rfl) (by (conv => lhs; whnf) <;> rfl) ta190 ti187 (by omega) (by omega)) ?_
              refine QW.nil ?_
              refine OW.store1 rfl rfl rfl (by (conv => lhs; whnf) <;> rfl) (by (conv => lhs; whnf) <;> rfl) ti187 rfl .head (spl_at eI (schedB_spl X ws i (by omega) hws _ (by rw [nextW, sched_length, if_neg (by omega)]; unfold sg0 sg1; exact add_rc _ _ _ _))) (by rw [List.length_map, schedB_length _ _ _ (by omega) hws]; omega) ?_
              refine OW.nil ?_
              refine hK21 _ _ ?_
              refine CW.region ?_
              refine OW.q rfl rfl (yq_move rfl (by (conv => lhs; whnf) <;> rfl)) ?_
              refine OW.q rfl rfl (yq_add rfl (by (conv => lhs; whnf) <;> rfl) (by (conv => lhs; whnf) <;> rfl) (by omega)) ?_
              refine OW.q rfl rfl (yq_assign rfl (by (conv => lhs; whnf) <;> rfl)) ?_
              refine OW.nil ?_
              exact ⟨i + 1, ⟨Has.mk ⟨(by (conv => lhs; whnf) <;> rfl), (by (conv => lhs; whnf) <;> rfl), (by (conv => lhs; whnf) <;> rfl), (by (conv => lhs; whnf) <;> rfl), (by (conv => lhs; whnf) <;> rfl), (by (conv => lhs; whnf) <;> rfl), (by (conv => lhs; whnf) <;> rfl), trivial⟩, by omega, by omega, rfl⟩, by omega⟩
            · have hi64 : i = 64 := by omega
              clear hi hc7 eI hi16
              subst hi64
              refine CW.exit ?_
              refine then_exit ?_
              refine then_exit ?_
              refine blockQ_hit ?_
              refine hK17 _ _ ?_
              refine CW.seq_k fun K23 hK23 => ?_
              refine CW.draw mixed (by kernel_rfl) ?_
              refine QW.q rfl rfl (yq_index_arr rfl (by (conv => lhs; whnf) <;> rfl) (by (conv => lhs; whnf) <;> rfl) ta188 ti187 (by decide) (by decide)) ?_
              refine QW.q rfl rfl (yq_load1 rfl (by (conv => lhs; whnf) <;> rfl) ti187 (List.mem_cons_of_mem _ (List.mem_cons_of_mem _ (List.mem_cons_self ..))) rfl) ?_
              refine QW.q rfl rfl (yq_index_arr rfl (by (conv => lhs; whnf) <;> rfl) (by (conv => lhs; whnf) <;> rfl) ta188 ti187 (by decide) (by decide)) ?_
              refine QW.q rfl rfl (yq_load1 rfl (by (conv => lhs; whnf) <;> rfl) ti187 (List.mem_cons_of_mem _ (List.mem_cons_of_mem _ (List.mem_cons_self ..))) rfl) ?_
              refine QW.q rfl rfl (yq_index_arr rfl (by (conv => lhs; whnf) <;> rfl) (by (conv => lhs; whnf) <;> rfl) ta188 ti187 (by decide) (by decide)) ?_
              refine QW.q rfl rfl (yq_load1 rfl (by (conv => lhs; whnf) <;> rfl) ti187 (List.mem_cons_of_mem _ (List.mem_cons_of_mem _ (List.mem_cons_self ..))) rfl) ?_
              refine QW.q rfl rfl (yq_index_arr rfl (by (conv => lhs; whnf) <;> rfl) (by (conv => lhs; whnf) <;> rfl) ta188 ti187 (by decide) (by decide)) ?_
              refine QW.q rfl rfl (yq_load1 rfl (by (conv => lhs; whnf) <;> rfl) ti187 (List.mem_cons_of_mem _ (List.mem_cons_of_mem _ (List.mem_cons_self ..))) rfl) ?_
              refine QW.q rfl rfl (yq_index_arr rfl (by (conv => lhs; whnf) <;> rfl) (by (conv => lhs; whnf) <;> rfl) ta188 ti187 (by decide) (by decide)) ?_
              refine QW.q rfl rfl (yq_load1 rfl (by (conv => lhs; whnf) <;> rfl) ti187 (List.mem_cons_of_mem _ (List.mem_cons_of_mem _ (List.mem_cons_self ..))) rfl) ?_
              refine QW.q rfl rfl (yq_index_arr rfl (by (conv => lhs; whnf) <;> rfl) (by (conv => lhs; whnf) <;> rfl) ta188 ti187 (by decide) (by decide)) ?_
              refine QW.q rfl rfl (yq_load1 rfl (by (conv => lhs; whnf) <;> rfl) ti187 (List.mem_cons_of_mem _ (List.mem_cons_of_mem _ (List.mem_cons_self ..))) rfl) ?_
              refine QW.q rfl rfl (yq_index_arr rfl (by (conv => lhs; whnf) <;> rfl) (by (conv => lhs; whnf) <;> rfl) ta188 ti187 (by decide) (by decide)) ?_
              refine QW.q rfl rfl (yq_load1 rfl (by (conv => lhs; whnf) <;> rfl) ti187 (List.mem_cons_of_mem _ (List.mem_cons_of_mem _ (List.mem_cons_self ..))) rfl) ?_
              refine QW.q rfl rfl (yq_index_arr rfl (by (conv => lhs; whnf) <;> rfl) (by (conv => lhs; whnf) <;> rfl) ta188 ti187 (by decide) (by decide)) ?_
              refine QW.q rfl rfl (yq_load1 rfl (by (conv => lhs; whnf) <;> rfl) ti187 (List.mem_cons_of_mem _ (List.mem_cons_of_mem _ (List.mem_cons_self ..))) rfl) ?_
              refine QW.q rfl rfl (yq_assign rfl (by (conv => lhs; whnf) <;> rfl)) ?_
              refine QW.q rfl rfl (yq_assign rfl (by (conv => lhs; whnf) <;> rfl)) ?_
              refine QW.q rfl rfl (yq_assign rfl (by (conv => lhs; whnf) <;> rfl)) ?_
              refine QW.q rfl rfl (yq_assign rfl (by (conv => lhs; whnf) <;> rfl)) ?_
              refine QW.q rfl rfl (yq_assign rfl (by (conv => lhs; whnf) <;> rfl)) ?_
              refine QW.q rfl rfl (yq_assign rfl (by (conv => lhs; whnf) <;> rfl)) ?_
              refine QW.q rfl rfl (yq_assign rfl (by (conv => lhs; whnf) <;> rfl)) ?_
              refine QW.q rfl rfl (yq_assign rfl (by (conv => lhs; whnf) <;> rfl)) ?_
              refine QW.nil ?_
              refine hK23 _ _ ?_
              refine CW.seq_k fun K24 hK24 => ?_
              refine CW.seq_k fun K25 hK25 => ?_
              refine CW.region ?_
              refine OW.q rfl rfl (yq_assign rfl (by (conv => lhs; whnf) <;> rfl)) ?_
              refine OW.nil ?_
              refine hK25 _ _ ?_
              refine CW.block ?_
              refine CW.loop (σ := Nat) (fun i ρ L => (∃ vi, vi = rounds8 (sched X 64) v i ∧ Has ρ [(2, .pointer (some ⟨b2, 0, none⟩)), (3, .pointer (some ⟨b3, 0, none⟩)), (4, .pointer (some ⟨b4, 0, none⟩)), (5, .slice (some ⟨pb, 0, none⟩) F.length cap), (6, .pointer (some ⟨b6, 0, none⟩)), (7, .int .i64 (64 * (k : Int))), (13, U32 vi.a), (14, U32 vi.b), (15, U32 vi.c), (16, U32 vi.d), (17, U32 vi.e), (18, U32 vi.f), (19, U32 vi.g), (20, U32 vi.h), (21, .int .i64 (i : Int))]) ∧ i ≤ 64 ∧ L = [.blk b6 ((schedB X ws 64).map U32) 190 (0, 0), y, .blk b4 (v.l.map U32) 188 (0, 0), .blk b3 (roundKs.map U32) 190 (0, 0), .blk b2 (hc zeroHash) 25 (0, 0)]) (fun i => 64 - i) (0) ?_ ?_
              · exact ⟨⟨v, by rw [rounds8_zero], Has.mk ⟨(by (conv => lhs; whnf) <;> rfl), (by (conv => lhs; whnf) <;> rfl), (by (conv => lhs; whnf) <;> rfl), (by (conv => lhs; whnf) <;> rfl), (by (conv => lhs; whnf) <;> rfl), (by (conv => lhs; whnf) <;> rfl), (by (conv => lhs; whnf) <;> rfl), (by (conv => lhs; whnf) <;> rfl), (by (conv => lhs; whnf) <;> rfl), (by (conv => lhs; whnf) <;> rfl), (by (conv => lhs; whnf) <;> rfl), (by (conv => lhs; whnf) <;> rfl), (by (conv => lhs; whnf) <;> rfl), (by (conv => lhs; whnf) <;> rfl), (by (conv => lhs; whnf) <;> rfl), trivial⟩⟩, Nat.zero_le _, rfl⟩
              · rintro i _ _ ⟨⟨vi, hvi, ⟨ρ', rfl⟩⟩, hi, rfl⟩
                have eI := h1off i
                refine CW.seq_k fun K26 hK26 => ?_
                refine CW.seq_k fun K27 hK27 => ?_
                refine CW.region ?_
                refine OW.q rfl rfl (yq_move rfl (by (conv => lhs; whnf) <;> rfl)) ?_
                refine OW.q rfl rfl (yq_lss rfl (by (conv => lhs; whnf) <;> rfl) (by (conv => lhs; whnf) <;> rfl)) ?_
                refine OW.nil ?_
                refine hK27 _ _ ?_
                refine CW.cond_dec (by (conv => lhs; whnf) <;> rfl) (fun hc10 => ?_) (fun hc10 => ?_)
                · have hlt64 : i < 64 := by omega
                  refine CW.skip ?_
                  refine hK26 _ _ ?_
                  refine CW.seq_k fun K28 hK28 => ?_
                  refine CW.block ?_
                  refine CW.seq_k fun K29 hK29 => ?_
                  refine CW.draw mixed (by kernel_rfl) ?_
                  refine QW.q rfl rfl (yq_move rfl (by (conv => lhs; whnf) <;> rfl)) ?_
                  refine QW.q rfl rfl (yq_move rfl (by (conv => lhs; whnf) <;> rfl)) ?_
                  refine QW.q rfl rfl (yq_call rfl rfl (.cons (by (conv => lhs; whnf) <;> rfl) ( .cons (by (conv => lhs; whnf) <;> rfl) .nil)) en148 (fun w hw => turn_calls _ 6 w (by decide) (by decide))) ?_
                  refine QW.q rfl rfl (yq_move rfl (by (conv => lhs; whnf) <;> rfl)) ?_
                  refine QW.q rfl rfl (yq_call rfl rfl (.cons (by (conv => lhs; whnf) <;> rfl) ( .cons (by (conv => lhs; whnf) <;> rfl) .nil)) en148 (fun w hw => turn_calls _ 11 w (by decide) (by decide))) ?_
                  refine QW.q rfl rfl (yq_xor_u32 rfl (by (conv => lhs; whnf) <;> rfl) (by (conv => lhs; whnf) <;> rfl)) ?_
                  refine QW.q rfl rfl (yq_move rfl (by (conv => lhs; whnf) <;> rfl)) ?_
                  refine QW.q rfl rfl (yq_call rfl rfl (.cons (by (conv => lhs; whnf) <;> rfl) ( .cons (by (conv => lhs; whnf) <;> rfl) .nil)) en148 (fun w hw => turn_calls _ 25 w (by decide) (by decide))) ?_
                  refine QW.q rfl rfl (yq_xor_u32 rfl (by (conv => lhs; whnf) <;> rfl) (by (conv => lhs; whnf) <;> rfl)) ?_
                  refine QW.q rfl rfl (yq_add_u32 rfl (by (conv => lhs; whnf) <;> rfl) (by (conv => lhs; whnf) <;> rfl)) ?_
                  refine QW.q rfl rfl (yq_move rfl (by (conv => lhs; whnf) <;> rfl)) ?_
                  refine QW.q rfl rfl (yq_move rfl (by (conv => lhs; whnf) <;> rfl)) ?_
                  refine QW.q rfl rfl (yq_and_u32 rfl (by (conv => lhs; whnf) <;> rfl) (by (conv => lhs; whnf) <;> rfl)) ?_
                  refine QW.q rfl rfl (yq_move rfl (by (conv => lhs; whnf) <;> rfl)) ?_
                  refine QW.q rfl rfl (yq_not_u32 rfl (by (conv => lhs; whnf) <;> rfl)) ?_
                  refine QW.q rfl rfl (yq_move rfl (by (conv => lhs; whnf) <;> rfl)) ?_
                  refine QW.q rfl rfl (yq_and_u32 rfl (by (conv => lhs; whnf) <;> rfl) (by (conv => lhs; whnf) <;> rfl)) ?_
                  refine QW.q rfl rfl (yq_xor_u32 rfl (by (conv => lhs; whnf) <;> rfl) (by (conv => lhs; whnf) <;> rfl)) ?_
                  refine QW.q rfl rfl (yq_add_u32 rfl (by (conv => lhs; whnf) <;> rfl) (by (conv => lhs; whnf) <;> rfl)) ?_
                  refine QW.q rfl rfl (yq_move rfl (by (conv => lhs; whnf) <;> rfl)) ?_
                  refine QW.q rfl rfl (yq_index_arr rfl (by (conv => lhs; whnf) <;> rfl) (by (conv => lhs; whnf) <;> rfl) ta190 ti187 (by omega) (by omega)) ?_
                  refine QW.q rfl rfl (yq_load1 rfl (by (conv => lhs; whnf) <;> rfl) ti187 (List.mem_cons_of_mem _ (List.mem_cons_of_mem _ (List.mem_cons_of_mem _ (List.mem_cons_self ..)))) (by rw [eI]; exact map_at roundKs i (by exact hlt64))) ?_
                  refine QW.q rfl rfl (yq_add_u32 rfl (by (conv => lhs; whnf) <;> rfl) (by (conv => lhs; whnf) <;> rfl)) ?_
                  refine QW.q rfl rfl (yq_move rfl (by (conv => lhs; whnf) <;> rfl)) ?_
                  refine QW.q rfl rfl (yq_index_arr rfl (by (conv => lhs; whnf) <;> rfl) (by (conv => lhs; whnf) <;> rfl) ta190 ti187 (by omega) (by omega)) ?_
                  refine QW.q rfl rfl (yq_load1 rfl (by (conv => lhs; whnf) <;> rfl) ti187 (List.mem_cons_self ..) (by rw [eI]; exact schedB_at _ _ _ _ (by omega) (by omega))) ?_
                  refine QW.q rfl rfl (yq_add_u32 rfl (by (conv => lhs; whnf) <;> rfl) (by (conv => lhs; whnf) <;> rfl)) ?_
                  refine QW.q rfl rfl (yq_assign rfl (by (conv => lhs; whnf) <;> rfl)) ?_
                  refine QW.nil ?_
                  refine hK29 _ _ ?_
                  refine CW.seq_k fun K30 hK30 => ?_
                  refine CW.region ?_
                  refine OW.q rfl rfl (yq_move rfl (by (conv => lhs; whnf) <;> rfl)) ?_
                  refine OW.q rfl rfl (yq_call rfl rfl (.cons (by (conv => lhs; whnf) <;> rfl) ( .cons (by (conv => lhs; whnf) <;> rfl) .nil)) en148 (fun w hw => turn_calls _ 2 w (by decide) (by decide))) ?_
                  refine OW.q rfl rfl (yq_move rfl (by (conv => lhs; whnf) <;> rfl)) ?_
                  refine OW.q rfl rfl (yq_call rfl rfl (.cons (by (conv => lhs; whnf) <;> rfl) ( .cons (by (conv => lhs; whnf) <;> rfl) .nil)) en148 (fun w hw => turn_calls _ 13 w (by decide) (by decide))) ?_
                  refine OW.q rfl rfl (yq_xor_u32 rfl (by (conv => lhs; whnf) <;> rfl) (by (conv => lhs; whnf) <;> rfl)) ?_
                  refine OW.q rfl rfl (yq_move rfl (by (conv => lhs; whnf) <;> rfl)) ?_
                  refine OW.q rfl rfl (yq_call rfl rfl (.cons (by (conv => lhs; whnf) <;> rfl) ( .cons (by (conv => lhs; whnf) <;> rfl) .nil)) en148 (fun w hw => turn_calls _ 22 w (by decide) (by decide))) ?_
                  refine OW.q rfl rfl (yq_xor_u32 rfl (by (conv => lhs; whnf) <;> rfl) (by (conv => lhs; whnf) <;> rfl)) ?_
                  refine OW.q rfl rfl (yq_move rfl (by (conv => lhs; whnf) <;> rfl)) ?_
                  refine OW.q rfl rfl (yq_move rfl (by (conv => lhs; whnf) <;> rfl)) ?_
                  refine OW.q rfl rfl (yq_and_u32 rfl (by (conv => lhs; whnf) <;> rfl) (by (conv => lhs; whnf) <;> rfl)) ?_
                  refine OW.q rfl rfl (yq_move rfl (by (conv => lhs; whnf) <;> rfl)) ?_
                  refine OW.q rfl rfl (yq_move rfl (by (conv => lhs; whnf) <;> rfl)) ?_
                  refine OW.q rfl rfl (yq_and_u32 rfl (by (conv => lhs; whnf) <;> rfl) (by (conv => lhs; whnf) <;> rfl)) ?_
                  refine OW.q rfl rfl (yq_xor_u32 rfl (by (conv => lhs; whnf) <;> rfl) (by (conv => lhs; whnf) <;> rfl)) ?_
                  refine OW.q rfl rfl (yq_move rfl (by (conv => lhs; whnf) <;> rfl)) ?_
                  refine OW.q rfl rfl (yq_move rfl (by (conv => lhs; whnf) <;> rfl)) ?_
                  refine OW.q rfl rfl (yq_and_u32 rfl (by (conv => lhs; whnf) <;> rfl) (by (conv => lhs; whnf) <;> rfl)) ?_
                  refine OW.q rfl rfl (yq_xor_u32 rfl (by (conv => lhs; whnf) <;> rfl) (by (conv => lhs; whnf) <;> rfl)) ?_
                  refine OW.q rfl rfl (yq_add_u32 rfl (by (conv => lhs; whnf) <;> rfl) (by (conv => lhs; whnf) <;> rfl)) ?_
                  refine OW.q rfl rfl (yq_assign rfl (by (conv => lhs; whnf) <;> rfl)) ?_
                  refine OW.nil ?_
                  refine hK30 _ _ ?_
                  refine CW.region ?_
                  refine OW.q rfl rfl (yq_move rfl (by (conv => lhs; whnf) <;> rfl)) ?_
                  refine OW.q rfl rfl (yq_move rfl (by (conv => lhs; whnf) <;> rfl)) ?_
                  refine OW.q rfl rfl (yq_move rfl (by (conv => lhs; whnf) <;> rfl)) ?_
                  refine OW.q rfl rfl (yq_move rfl (by (conv => lhs; whnf) <;> rfl)) ?_
                  refine OW.q rfl rfl (yq_move rfl (by (conv => lhs; whnf) <;> rfl)) ?_
                  refine OW.q rfl rfl (yq_add_u32 rfl (by (conv => lhs; whnf) <;> rfl) (by (conv => lhs; whnf) <;> rfl)) ?_
                  refine OW.q rfl rfl (yq_move rfl (by (conv => lhs; whnf) <;> rfl)) ?_
                  refine OW.q rfl rfl (yq_move rfl (by (conv => lhs; whnf) <;> rfl)) ?_
                  refine OW.q rfl rfl (yq_move rfl (by (conv => lhs; whnf) <;> rfl)) ?_
                  refine OW.q rfl rfl (yq_move rfl (by (conv => lhs; whnf) <;> rfl)) ?_
                  refine OW.q rfl rfl (yq_move rfl (by (conv => lhs; whnf) <;> rfl)) ?_
                  refine OW.q rfl rfl (yq_add_u32 rfl (by (conv => lhs; whnf) <;> rfl) (by (conv => lhs; whnf) <;> rfl)) ?_
                  refine OW.q rfl rfl (yq_assign rfl (by (conv => lhs; whnf) <;> rfl)) ?_
                  refine OW.q rfl rfl (yq_assign rfl (by (conv => lhs; whnf) <;> rfl)) ?_
                  refine OW.q rfl rfl (yq_assign rfl (by (conv => lhs; whnf) <;> rfl)) ?_
                  refine OW.q rfl rfl (yq_assign rfl (by (conv => lhs; whnf) <;> rfl)) ?_
                  refine OW.q rfl rfl (yq_assign rfl (by (conv => lhs; whnf) <;> rfl)) ?_
                  refine OW.q rfl rfl (yq_assign rfl (by (conv => lhs; whnf) <;> rfl)) ?_
                  refine OW.q rfl rfl (yq_assign rfl (by (conv => lhs; whnf) <;> rfl)) ?_
                  refine OW.q rfl rfl (yq_assign rfl (by (conv => lhs; whnf) <;> rfl)) ?_
                  refine OW.nil ?_
                  refine hK28 _ _ ?_
                  refine CW.region ?_
                  refine OW.q rfl rfl (yq_move rfl (by (conv => lhs; whnf) <;> rfl)) ?_
                  refine OW.q rfl rfl (yq_add rfl (by (conv => lhs; whnf) <;> rfl) (by (conv => lhs; whnf) <;> rfl) (by omega)) ?_
                  refine OW.q rfl rfl (yq_assign rfl (by (conv => lhs; whnf) <;> rfl)) ?_
                  refine OW.nil ?_
                  exact ⟨i + 1, ⟨⟨step8 vi (roundKs.getD i 0) ((sched X 64).getD i 0), by rw [rounds8_succ, ← hvi], Has.mk ⟨(by (conv => lhs; whnf) <;> rfl), (by (conv => lhs; whnf) <;> rfl), (by (conv => lhs; whnf) <;> rfl), (by (conv => lhs; whnf) <;> rfl), (by (conv => lhs; whnf) <;> rfl), (by (conv => lhs; whnf) <;> rfl), (by (conv => lhs; whnf) <;> rfl), (by (conv => lhs; whnf) <;> rfl), (by (conv => lhs; whnf) <;> rfl), (by (conv => lhs; whnf) <;> rfl), (by (conv => lhs; whnf) <;> rfl), (by (conv => lhs; whnf) <;> rfl), (by (conv => lhs; whnf) <;> rfl), (by (conv => lhs; whnf) <;> rfl), (by (conv => lhs; whnf) <;> rfl), trivial⟩⟩, by omega, rfl⟩, by omega⟩
                · have hi64 : i = 64 := by omega
                  clear hi hc10 eI
                  subst hi64
                  refine CW.exit ?_
                  refine then_exit ?_
                  refine then_exit ?_
                  refine blockQ_hit ?_
                  refine hK24 _ _ ?_
                  refine CW.region ?_
                  refine OW.q rfl rfl (yq_index_arr rfl (by (conv => lhs; whnf) <;> rfl) (by (conv => lhs; whnf) <;> rfl) ta188 ti187 (by decide) (by decide)) ?_
                  refine OW.q rfl rfl (yq_load1 rfl (by (conv => lhs; whnf) <;> rfl) ti187 (List.mem_cons_of_mem _ (List.mem_cons_of_mem _ (List.mem_cons_self ..))) rfl) ?_
                  refine OW.q rfl rfl (yq_move rfl (by (conv => lhs; whnf) <;> rfl)) ?_
                  refine OW.q rfl rfl (yq_add_u32 rfl (by (conv => lhs; whnf) <;> rfl) (by (conv => lhs; whnf) <;> rfl)) ?_
                  refine OW.q rfl rfl (yq_index_arr rfl (by (conv => lhs; whnf) <;> rfl) (by (conv => lhs; whnf) <;> rfl) ta188 ti187 (by decide) (by decide)) ?_
                  refine OW.q rfl rfl (yq_load1 rfl (by (conv => lhs; whnf) <;> rfl) ti187 (List.mem_cons_of_mem _ (List.mem_cons_of_mem _ (List.mem_cons_self ..))) rfl) ?_
                  refine OW.q rfl rfl (yq_move rfl (by (conv => lhs; whnf) <;> rfl)) ?_
                  refine OW.q rfl rfl (yq_add_u32 rfl (by (conv => lhs; whnf) <;> rfl) (by (conv => lhs; whnf) <;> rfl)) ?_
                  refine OW.q rfl rfl (yq_index_arr rfl (by (conv => lhs; whnf) <;> rfl) (by (conv => lhs; whnf) <;> rfl) ta188 ti187 (by decide) (by decide)) ?_
                  refine OW.q rfl rfl (yq_load1 rfl (by (conv => lhs; whnf) <;> rfl) ti187 (List.mem_cons_of_mem _ (List.mem_cons_of_mem _ (List.mem_cons_self ..))) rfl) ?_
                  refine OW.q rfl rfl (yq_move rfl (by (conv => lhs; whnf) <;> rfl)) ?_
                  refine OW.q rfl rfl (yq_add_u32 rfl (by (conv => lhs; whnf) <;> rfl) (by (conv => lhs; whnf) <;> rfl)) ?_
                  refine OW.q rfl rfl (yq_index_arr rfl (by (conv => lhs; whnf) <;> rfl) (by (conv => lhs; whnf) <;> rfl) ta188 ti187 (by decide) (by decide)) ?_
                  refine OW.q rfl rfl (yq_load1 rfl (by (conv => lhs; whnf) <;> rfl) ti187 (List.mem_cons_of_mem _ (List.mem_cons_of_mem _ (List.mem_cons_self ..))) rfl) ?_
                  refine OW.q rfl rfl (yq_move rfl (by (conv => lhs; whnf) <;> rfl)) ?_
                  refine OW.q rfl rfl (yq_add_u32 rfl (by (conv => lhs; whnf) <;> rfl) (by (conv => lhs; whnf) <;> rfl)) ?_
                  refine OW.q rfl rfl (yq_index_arr rfl (by (conv => lhs; whnf) <;> rfl) (by (conv => lhs; whnf) <;> rfl) ta188 ti187 (by decide) (by decide)) ?_
                  refine OW.q rfl rfl (yq_load1 rfl (by (conv => lhs; whnf) <;> rfl) ti187 (List.mem_cons_of_mem _ (List.mem_cons_of_mem _ (List.mem_cons_self ..))) rfl) ?_
                  refine OW.q rfl rfl (yq_move rfl (by (conv => lhs; whnf) <;> rfl)) ?_
                  refine OW.q rfl rfl (yq_add_u32 rfl (by (conv => lhs; whnf) <;> rfl) (by (conv => lhs; whnf) <;> rfl)) ?_
                  refine OW.q rfl rfl (yq_index_arr rfl (by (conv => lhs; whnf) <;> rfl) (by (conv => lhs; whnf) <;> rfl) ta188 ti187 (by decide) (by decide)) ?_
                  refine OW.q rfl rfl (yq_load1 rfl (by (conv => lhs; whnf) <;> rfl) ti187 (List.mem_cons_of_mem _ (List.mem_cons_of_mem _ (List.mem_cons_self ..))) rfl) ?_
                  refine OW.q rfl rfl (yq_move rfl (by (conv => lhs; whnf) <;> rfl)) ?_
                  refine OW.q rfl rfl (yq_add_u32 rfl (by (conv => lhs; whnf) <;> rfl) (by (conv => lhs; whnf) <;> rfl)) ?_
                  refine OW.q rfl rfl (yq_index_arr rfl (by (conv => lhs; whnf) <;> rfl) (by (conv => lhs; whnf) <;> rfl) ta188 ti187 (by decide) (by decide)) ?_
                  refine OW.q rfl rfl (yq_load1 rfl (by (conv => lhs; whnf) <;> rfl) ti187 (List.mem_cons_of_mem _ (List.mem_cons_of_mem _ (List.mem_cons_self ..))) rfl) ?_
                  refine OW.q rfl rfl (yq_move rfl (by (conv => lhs; whnf) <;> rfl)) ?_
                  refine OW.q rfl rfl (yq_add_u32 rfl (by (conv => lhs; whnf) <;> rfl) (by (conv => lhs; whnf) <;> rfl)) ?_
                  refine OW.q rfl rfl (yq_index_arr rfl (by (conv => lhs; whnf) <;> rfl) (by (conv => lhs; whnf) <;> rfl) ta188 ti187 (by decide) (by decide)) ?_
                  refine OW.q rfl rfl (yq_load1 rfl (by (conv => lhs; whnf) <;> rfl) ti187 (List.mem_cons_of_mem _ (List.mem_cons_of_mem _ (List.mem_cons_self ..))) rfl) ?_
                  refine OW.q rfl rfl (yq_move rfl (by (conv => lhs; whnf) <;> rfl)) ?_
                  refine OW.q rfl rfl (yq_add_u32 rfl (by (conv => lhs; whnf) <;> rfl) (by (conv => lhs; whnf) <;> rfl)) ?_
                  refine OW.q rfl rfl (yq_index_arr rfl (by (conv => lhs; whnf) <;> rfl) (by (conv => lhs; whnf) <;> rfl) ta188 ti187 (by decide) (by decide)) ?_
                  refine OW.store1 rfl rfl rfl (by (conv => lhs; whnf) <;> rfl) (by (conv => lhs; whnf) <;> rfl) ti187 rfl (.tail (.tail .head)) rfl (Nat.le_of_ble_eq_true rfl) ?_
                  refine OW.q rfl rfl (yq_index_arr rfl (by (conv => lhs; whnf) <;> rfl) (by (conv => lhs; whnf) <;> rfl) ta188 ti187 (by decide) (by decide)) ?_
                  refine OW.store1 rfl rfl rfl (by (conv => lhs; whnf) <;> rfl) (by (conv => lhs; whnf) <;> rfl) ti187 rfl (.tail (.tail .head)) rfl (Nat.le_of_ble_eq_true rfl) ?_
                  refine OW.q rfl rfl (yq_index_arr rfl (by (conv => lhs; whnf) <;> rfl) (by (conv => lhs; whnf) <;> rfl) ta188 ti187 (by decide) (by decide)) ?_
                  refine OW.store1 rfl rfl rfl (by (conv => lhs; whnf) <;> rfl) (by (conv => lhs; whnf) <;> rfl) ti187 rfl (.tail (.tail .head)) rfl (Nat.le_of_ble_eq_true rfl) ?_
                  refine OW.q rfl rfl (yq_index_arr rfl (by (conv => lhs; whnf) <;> rfl) (by (conv => lhs; whnf) <;> rfl) ta188 ti187 (by decide) (by decide)) ?_
                  refine OW.store1 rfl rfl rfl (by (conv => lhs; whnf) <;> rfl) (by (conv => lhs; whnf) <;> rfl) ti187 rfl (.tail (.tail .head)) rfl (Nat.le_of_ble_eq_true rfl) ?_
                  refine OW.q rfl rfl (yq_index_arr rfl (by (conv => lhs; whnf) <;> rfl) (by (conv => lhs; whnf) <;> rfl) ta188 ti187 (by decide) (by decide)) ?_
                  refine OW.store1 rfl rfl rfl (by (conv => lhs; whnf) <;> rfl) (by (conv => lhs; whnf) <;> rfl) ti187 rfl (.tail (.tail .head)) rfl (Nat.le_of_ble_eq_true rfl) ?_
                  refine OW.q rfl rfl (yq_index_arr rfl (by (conv => lhs; whnf) <;> rfl) (by (conv => lhs; whnf) <;> rfl) ta188 ti187 (by decide) (by decide)) ?_
                  refine OW.store1 rfl rfl rfl (by (conv => lhs; whnf) <;> rfl) (by (conv => lhs; whnf) <;> rfl) ti187 rfl (.tail (.tail .head)) rfl (Nat.le_of_ble_eq_true rfl) ?_
                  refine OW.q rfl rfl (yq_index_arr rfl (by (conv => lhs; whnf) <;> rfl) (by (conv => lhs; whnf) <;> rfl) ta188 ti187 (by decide) (by decide)) ?_
                  refine OW.store1 rfl rfl rfl (by (conv => lhs; whnf) <;> rfl) (by (conv => lhs; whnf) <;> rfl) ti187 rfl (.tail (.tail .head)) rfl (Nat.le_of_ble_eq_true rfl) ?_
                  refine OW.q rfl rfl (yq_index_arr rfl (by (conv => lhs; whnf) <;> rfl) (by (conv => lhs; whnf) <;> rfl) ta188 ti187 (by decide) (by decide)) ?_
                  refine OW.store1 rfl rfl rfl (by (conv => lhs; whnf) <;> rfl) (by (conv => lhs; whnf) <;> rfl) ti187 rfl (.tail (.tail .head)) rfl (Nat.le_of_ble_eq_true rfl) ?_
                  refine OW.nil ?_
                  refine hK10 _ _ ?_
                  refine CW.region ?_
                  refine OW.q rfl rfl (yq_move rfl (by (conv => lhs; whnf) <;> rfl)) ?_
                  refine OW.q rfl rfl (yq_add rfl (by (conv => lhs; whnf) <;> rfl) (by (conv => lhs; whnf) <;> rfl) (by omega)) ?_
                  refine OW.q rfl rfl (yq_assign rfl (by (conv => lhs; whnf) <;> rfl)) ?_
                  refine OW.nil ?_
                  refine ⟨(k + 1, v2, schedB X ws 64), ⟨Has.mk ⟨(by (conv => lhs; whnf) <;> rfl), (by (conv => lhs; whnf) <;> rfl), (by (conv => lhs; whnf) <;> rfl), (by (conv => lhs; whnf) <;> rfl), (by (conv => lhs; whnf) <;> rfl), ?_, trivial⟩, hlt, schedB_length _ _ _ (Nat.le_refl _) hws, ?_, ?_⟩, by show N - (k + 1) < N - k; omega⟩
                  · conv => lhs; whnf
                    rw [show 64 * (k : Int) + 64 = 64 * ((k + 1 : Nat) : Int) by omega]
                  · rw [← hb, show N - k = (N - (k + 1)) + 1 by omega, blocks8_succ, List.drop_drop, show 64 * (k + 1) = 64 * k + 64 by omega, hv2, hX]
                  · rw [show v2.l.map U32 = [U32 (v.a + vi.a), U32 (v.b + vi.b), U32 (v.c + vi.c), U32 (v.d + vi.d), U32 (v.e + vi.e), U32 (v.f + vi.f), U32 (v.g + vi.g), U32 (v.h + vi.h)] by rw [hv2, mix8_eq, ← hvi, add8_comm]; rfl]
                    rfl
    · have hkN : k = N := by omega
      clear hk hc1
      subst hkN
      have hv : v = blocks8 firstS k F := by rw [← hb, Nat.sub_self, blocks8_zero]
      clear hb
      have hBv : B = outB v := by rw [hB0, hv]
      clear hv
      refine CW.exit ?_
      refine then_exit ?_
      refine then_exit ?_
      refine blockQ_hit ?_
      refine hK6 _ _ ?_
      refine CW.seq_k fun K31 hK31 => ?_
      refine CW.region ?_
      refine OW.drop (L' := [.blk b4 (v.l.map U32) 188 (0, 0), .blk b2 (hc zeroHash) 25 (0, 0)]) (.cons _ (.cons _ (.cons_cons _ (.cons _ (.cons_cons _ .slnil))))) ?_
      refine OW.alloc rfl rfl rfl tz25 (fun b24 => ?_)
      refine OW.nil ?_
      refine hK31 _ _ ?_
      refine CW.seq_k fun K32 hK32 => ?_
      refine CW.seq_k fun K33 hK33 => ?_
      refine CW.region ?_
      refine OW.q rfl rfl (yq_assign rfl (by (conv => lhs; whnf) <;> rfl)) ?_
      refine OW.nil ?_
      refine hK33 _ _ ?_
      refine CW.block ?_
      refine CW.loop (σ := Nat) (fun i ρ L => Has ρ [(2, .pointer (some ⟨b2, 0, none⟩)), (4, .pointer (some ⟨b4, 0, none⟩)), (24, .pointer (some ⟨b24, 0, none⟩)), (25, .int .i64 (i : Int))] ∧ i ≤ 32 ∧ L = [.blk b24 (outI B i) 25 (0, 0), .blk b4 (v.l.map U32) 188 (0, 0), .blk b2 (hc zeroHash) 25 (0, 0)]) (fun i => 32 - i) (0) ?_ ?_
      · exact ⟨Has.mk ⟨(by (conv => lhs; whnf) <;> rfl), (by (conv => lhs; whnf) <;> rfl), (by (conv => lhs; whnf) <;> rfl), (by (conv => lhs; whnf) <;> rfl), trivial⟩, Nat.zero_le _, by rw [outI_zero, ← hc_zero]⟩
      · rintro i _ _ ⟨⟨ρ', rfl⟩, hi, rfl⟩
        have eI := h1off i
        refine CW.seq_k fun K34 hK34 => ?_
        refine CW.seq_k fun K35 hK35 => ?_
        refine CW.region ?_
        refine OW.q rfl rfl (yq_move rfl (by (conv => lhs; whnf) <;> rfl)) ?_
        refine OW.q rfl rfl (yq_lss rfl (by (conv => lhs; whnf) <;> rfl) (by (conv => lhs; whnf) <;> rfl)) ?_
        refine OW.nil ?_
        refine hK35 _ _ ?_
        refine CW.cond_dec (by (conv => lhs; whnf) <;> rfl) (fun hc13 => ?_) (fun hc13 => ?_)
        · refine CW.skip ?_
          refine hK34 _ _ ?_
          refine CW.seq_k fun K36 hK36 => ?_
          refine CW.block ?_
          refine CW.region ?_
          refine OW.q rfl rfl (yq_move rfl (by (conv => lhs; whnf) <;> rfl)) ?_
          refine OW.q rfl rfl (yq_move rfl (by (conv => lhs; whnf) <;> rfl)) ?_
          refine OW.q rfl rfl (yq_quo rfl (by (conv => lhs; whnf) <;> rfl) (by (conv => lhs; whnf) <;> rfl) (by omega)) ?_
          refine OW.q rfl rfl (yq_index_arr rfl (by (conv => lhs; whnf) <;> rfl) (by (conv => lhs; whnf) <;> rfl) ta188 ti187 (by omega) (by omega)) ?_
          refine OW.q rfl rfl (yq_load1 rfl (by (conv => lhs; whnf) <;> rfl) ti187 (List.mem_cons_of_mem _ (List.mem_cons_self ..)) (by rw [show 0 + ((i : Int) / 4).toNat * 1 = i / 4 by omega]; exact l_at _ _ (by omega))) ?_
          refine OW.q rfl rfl (yq_move rfl (by (conv => lhs; whnf) <;> rfl)) ?_
          refine OW.q rfl rfl (yq_rem rfl (by (conv => lhs; whnf) <;> rfl) (by (conv => lhs; whnf) <;> rfl) (by omega)) ?_
          refine OW.q rfl rfl (yq_mul rfl (by (conv => lhs; whnf) <;> rfl) (by (conv => lhs; whnf) <;> rfl) (by omega)) ?_
          refine OW.q rfl rfl (yq_sub_e (r := ((24 - 8 * (i % 4) : Nat) : Int)) rfl (by (conv => lhs; whnf) <;> rfl) (by (conv => lhs; whnf) <;> rfl) (by rw [wrap64_in (by omega)]; omega)) ?_
          refine OW.q rfl rfl (yq_shr_u32 (s := 24 - 8 * (i % 4)) rfl (by (conv => lhs; whnf) <;> rfl) (by (conv => lhs; whnf) <;> rfl) (by omega)) ?_
          refine OW.q rfl rfl (yq_conv_u32_u8 rfl Tryd.underlying187 Tryd.underlying5 (by (conv => lhs; whnf) <;> rfl)) ?_
          refine OW.q rfl rfl (yq_index_arr rfl (by (conv => lhs; whnf) <;> rfl) (by (conv => lhs; whnf) <;> rfl) ta25 ti5 (by omega) (by omega)) ?_
          refine OW.store1 rfl rfl rfl (by (conv => lhs; whnf) <;> rfl) (by (conv => lhs; whnf) <;> rfl) ti5 rfl .head (spl_at eI (outI_spl B hB i (by omega) _ (by rw [hBv]; exact outB_at v i (by omega)))) (by rw [outI_length _ hB _ (by omega)]; omega) ?_
          refine OW.nil ?_
          refine hK36 _ _ ?_
          refine CW.region ?_
          refine OW.q rfl rfl (yq_move rfl (by (conv => lhs; whnf) <;> rfl)) ?_
          refine OW.q rfl rfl (yq_add rfl (by (conv => lhs; whnf) <;> rfl) (by (conv => lhs; whnf) <;> rfl) (by omega)) ?_
          refine OW.q rfl rfl (yq_assign rfl (by (conv => lhs; whnf) <;> rfl)) ?_
          refine OW.nil ?_
          exact ⟨i + 1, ⟨Has.mk ⟨(by (conv => lhs; whnf) <;> rfl), (by (conv => lhs; whnf) <;> rfl), (by (conv => lhs; whnf) <;> rfl), (by (conv => lhs; whnf) <;> rfl), trivial⟩, by omega, rfl⟩, by omega⟩
        · have hi32 : i = 32 := by omega
          clear hi hc13 eI
          subst hi32
          refine CW.exit ?_
          refine then_exit ?_
          refine then_exit ?_
          refine blockQ_hit ?_
          refine hK32 _ _ ?_
          refine CW.seq_k fun K37 hK37 => ?_
          refine CW.region ?_
          refine OW.q rfl rfl (yq_loadW (cs := outI B 32) rfl (by (conv => lhs; whnf) <;> rfl) (by rw [outI_length _ hB _ (Nat.le_refl _)]; exact ti25) (List.mem_cons_self ..)) ?_
          refine OW.store' rfl rfl rfl (by (conv => lhs; whnf) <;> rfl) (by (conv => lhs; whnf) <;> rfl) (vs := outI B 32) (by rw [outI_length _ hB _ (Nat.le_refl _)]; exact ti25) rfl (by rw [outI_full _ hB]; exact bc_one _) (.tail (.tail .head)) (spl_all _ _ (by rw [outI_length _ hB _ (Nat.le_refl _), hc_length])) (by rw [outI_length _ hB _ (Nat.le_refl _), hc_length]; decide) ?_
          refine OW.nil ?_
          refine hK37 _ _ ?_
          refine CW.ret ?_
          -- ret (ret)
          refine fin1 (Or.inr rfl) rfl (rv_cell (cs := outI B 32) (by decide) (by (conv => lhs; whnf) <;> rfl) (by rw [outI_length _ hB _ (Nat.le_refl _)]; exact ti25) (List.mem_cons_of_mem _ (List.mem_cons_of_mem _ (List.mem_cons_self ..)))) (fun w hw => ⟨?_, hw.sub (by simp)⟩)
          rw [HV, hsha, outI_full _ hB]
end Go.Proofs.YtahdekllphehkaaDoor
namespace Go.Proofs.YtahdekllphehkaaDoor
open Go.WL Go.Spec
theorem eg25 : Tryd.prog.eqGuardType Tryd.prog.depth 25 = false := by kernel_rfl
/-- A hash as a text. -/
def hb (h : Hash) : Bytes := h.toList
theorem hb_length (h : Hash) : (hb h).length = 32 := by simp [hb]
theorem hc_hb (h : Hash) : hc h = bc (hb h) := rfl
/-- How many leaves the left half has. -/
def sp (n : Nat) : Nat := if n < 2 then 0 else 2 ^ (n - 1).log2
def spI (n : Int) : Int := (sp n.toNat : Int)
theorem sp_of {n j : Nat} (h1 : 2 ^ j < n) (h2 : n ≤ 2 ^ (j + 1)) : sp n = 2 ^ j := by
  have hp : 0 < 2 ^ j := Nat.two_pow_pos j
  unfold sp
  rw [if_neg (by omega)]
  congr 1
  exact (Nat.log2_eq_iff (by omega)).2 ⟨by omega, by omega⟩
theorem sp_pos {n : Nat} (h : 2 ≤ n) : 0 < sp n := by unfold sp; rw [if_neg (by omega)]; exact Nat.two_pow_pos _
theorem sp_lt {n : Nat} (h : 2 ≤ n) : sp n < n := by
  unfold sp
  rw [if_neg (by omega)]
  have := Nat.log2_self_le (n := n - 1) (by omega)
  omega
theorem sp_zero {n : Nat} (h : n < 2) : sp n = 0 := by unfold sp; rw [if_pos h]
theorem sp_ge {n : Nat} (h : 2 ≤ n) : n ≤ 2 * sp n := by
  unfold sp
  rw [if_neg (by omega)]
  have := Nat.lt_log2_self (n := n - 1)
  rw [Nat.pow_succ] at this
  omega
def node (a b : Hash) : Hash := sha (1 :: hb a ++ hb b)
def leaf (s : Bytes) : Hash := sha (0 :: s)
attribute [irreducible] node leaf sp
theorem node_eq (a b : Hash) : node a b = sha ([1] ++ hb a ++ hb b) := by unfold node; rfl
set_option maxRecDepth 100000 in
set_option maxHeartbeats 1000000 in
theorem hash_calls (h : Hash) (w : World) :
    Calls Tryd.prog 103 #[HV h] w fun e w' => e = .returned (.string (bs (hb h))) ∧ Cl w [] [] w' := by
  refine calls_of_CW (L := []) Tryd.func103 rfl (Nat.le_of_ble_eq_true rfl) (Cl.refl _) ?_
  refine CW.seq_k fun K1 hK1 => ?_
  refine CW.region ?_
  refine OW.box (cs := hc h) rfl rfl rfl (by (conv => lhs; whnf) <;> rfl) rfl (fun b => ?_)
  refine OW.q rfl rfl (yq_assign rfl (by (conv => lhs; whnf) <;> rfl)) ?_
  refine OW.nil ?_
  refine hK1 _ _ ?_
  refine CW.seq_k fun K2 hK2 => ?_
  refine CW.region ?_
  refine OW.q rfl rfl (yq_slice_arr_all (k := 31) rfl (by (conv => lhs; whnf) <;> rfl) ta25 ti5) ?_
  refine OW.q rfl rfl (yq_conv_bytes (l := hb h) rfl ts92 Tryd.underlying5 tt9 (by (conv => lhs; whnf) <;> rfl) (hb_length h) (blk_cells (cs := bc (hb h)) (List.mem_cons_self ..))) ?_
  refine OW.q rfl rfl (yq_assign rfl (by (conv => lhs; whnf) <;> rfl)) ?_
  refine OW.nil ?_
  refine hK2 _ _ ?_
  refine CW.ret ?_
  -- ret (ret)
  exact fin1 (Or.inr rfl) rfl ⟨by decide, (by (conv => lhs; whnf) <;> rfl)⟩ (fun w hw => ⟨rfl, hw.sub (by simp)⟩)
set_option maxRecDepth 100000 in
set_option maxHeartbeats 1000000 in
theorem refhash_calls (h : Hash) (w : World) :
    Calls Tryd.prog 114 #[HV h] w fun e w' => e = .returned (.string (bs (hb h))) ∧ Cl w [] [] w' := by
  have hl := hb_length h
  refine calls_of_CW (L := []) Tryd.func114 rfl (Nat.le_of_ble_eq_true rfl) (Cl.refl _) ?_
  refine CW.seq_k fun K1 hK1 => ?_
  refine CW.region ?_
  refine OW.box (cs := hc h) rfl rfl rfl (by (conv => lhs; whnf) <;> rfl) rfl (fun b => ?_)
  refine OW.q rfl rfl (yq_assign rfl (by (conv => lhs; whnf) <;> rfl)) ?_
  refine OW.nil ?_
  refine hK1 _ _ ?_
  refine CW.seq_k fun K2 hK2 => ?_
  refine CW.region ?_
  refine OW.q rfl rfl (yq_assign rfl (by (conv => lhs; whnf) <;> rfl)) ?_
  refine OW.nilrow 5 1 ?_
  refine OW.nil ?_
  refine hK2 _ _ ?_
  refine CW.seq_k fun K3 hK3 => ?_
  refine CW.seq_k fun K4 hK4 => ?_
  refine CW.region ?_
  refine OW.q rfl rfl (yq_assign rfl (by (conv => lhs; whnf) <;> rfl)) ?_
  refine OW.nil ?_
  refine hK4 _ _ ?_
  refine CW.block ?_
  refine CW.loop (σ := Nat) (fun i ρ L => ∃ a cap, Has ρ [(1, .pointer (some ⟨b, 0, none⟩)), (3, rowV a i cap), (4, .int .i64 (i : Int))] ∧ i ≤ 32 ∧ L = [.row a cap i 5 1 (bc ((hb h).take i)), .blk b (hc h) 25 (0, 0)]) (fun i => 32 - i) (0) ?_ ?_
  · exact ⟨none, 0, Has.mk ⟨(by (conv => lhs; whnf) <;> rfl), (by (conv => lhs; whnf) <;> rfl), (by (conv => lhs; whnf) <;> rfl), trivial⟩, Nat.zero_le _, rfl⟩
  · rintro i _ _ ⟨a, cap, ⟨ρ', rfl⟩, hi, rfl⟩
    refine CW.seq_k fun K5 hK5 => ?_
    refine CW.seq_k fun K6 hK6 => ?_
    refine CW.region ?_
    refine OW.q rfl rfl (yq_move rfl (by (conv => lhs; whnf) <;> rfl)) ?_
    refine OW.q rfl rfl (yq_lss rfl (by (conv => lhs; whnf) <;> rfl) (by (conv => lhs; whnf) <;> rfl)) ?_
    refine OW.nil ?_
    refine hK6 _ _ ?_
    refine CW.cond_dec (by (conv => lhs; whnf) <;> rfl) (fun hc1 => ?_) (fun hc1 => ?_)
    · have hlt : i < 32 := by omega
      refine CW.skip ?_
      refine hK5 _ _ ?_
      refine CW.seq_k fun K7 hK7 => ?_
      refine CW.block ?_
      refine CW.region ?_
      refine OW.q rfl rfl (yq_move rfl (by (conv => lhs; whnf) <;> rfl)) ?_
      refine OW.q rfl rfl (yq_move rfl (by (conv => lhs; whnf) <;> rfl)) ?_
      refine OW.q rfl rfl (yq_index_arr rfl (by (conv => lhs; whnf) <;> rfl) (by (conv => lhs; whnf) <;> rfl) ta25 ti5 (by omega) (by omega)) ?_
      refine OW.q rfl rfl (yq_load1 (v := U8 ((hb h).getD i 0)) rfl (by (conv => lhs; whnf) <;> rfl) ti5 (List.mem_cons_of_mem _ (List.mem_cons_self ..)) (by rw [h1off, hc_hb]; exact bc_at _ _ (by omega))) ?_
      refine OW.slicelit (vs := [U8 ((hb h).getD i 0)]) rfl rfl rfl rfl ts92 ti5 tz5 (by decide) rfl (by decide) (by simp [Value.cells]) (by decide) rfl (fun bl => ?_)
      refine OW.append (news := [_]) rfl rfl rfl (by (conv => lhs; whnf) <;> rfl) (by (conv => lhs; whnf) <;> rfl) ts92 ti5 tz5 (.tail .head) (blk_cells (List.mem_cons_self ..)) rfl (by simp; rfl) rfl (by decide) (by simp only [maxLen]; omega) (by omega) (fun a' cap' => ?_)
      refine OW.drop ((List.sublist_cons_self _ _).cons_cons _) ?_
      have hrow : bc (List.take i (hb h)) ++ [U8 ((hb h).getD i 0)] = bc (List.take (i + 1) (hb h)) := by rw [List.take_succ_eq_append_getElem (by omega), List.getD_eq_getElem?_getD, List.getElem?_eq_getElem (by omega)]; simp only [bc, List.map_append, List.map_cons, List.map_nil]; rfl
      refine OW.q rfl rfl (yq_assign rfl (by (conv => lhs; whnf) <;> rfl)) ?_
      refine OW.nil ?_
      refine hK7 _ _ ?_
      refine CW.region ?_
      refine OW.q rfl rfl (yq_move rfl (by (conv => lhs; whnf) <;> rfl)) ?_
      refine OW.q rfl rfl (yq_add rfl (by (conv => lhs; whnf) <;> rfl) (by (conv => lhs; whnf) <;> rfl) (by omega)) ?_
      refine OW.q rfl rfl (yq_assign rfl (by (conv => lhs; whnf) <;> rfl)) ?_
      refine OW.nil ?_
      exact ⟨i + 1, ⟨a', cap', Has.mk ⟨(by (conv => lhs; whnf) <;> rfl), (by (conv => lhs; whnf) <;> rfl), (by (conv => lhs; whnf) <;> rfl), trivial⟩, by omega, by rw [hrow]⟩, by omega⟩
    · have hi32 : i = 32 := by omega
      clear hi hc1
      subst hi32
      refine CW.exit ?_
      refine then_exit ?_
      refine then_exit ?_
      refine blockQ_hit ?_
      refine hK3 _ _ ?_
      refine CW.seq_k fun K8 hK8 => ?_
      refine CW.region ?_
      refine OW.q rfl rfl (yq_move rfl (by (conv => lhs; whnf) <;> rfl)) ?_
      refine OW.know _ (know_row (List.mem_cons_self ..) (by decide)) ?_
      rintro ⟨g, rfl⟩
      refine OW.q rfl rfl (yq_conv_bytes (l := hb h) rfl ts92 Tryd.underlying5 tt9 (by (conv => lhs; whnf) <;> rfl) (hb_length h) (fun w hw j u hu => row_cells (List.mem_cons_self ..) w hw j u (by rw [List.take_of_length_le (Nat.le_of_eq hl)]; exact hu))) ?_
      refine OW.q rfl rfl (yq_assign rfl (by (conv => lhs; whnf) <;> rfl)) ?_
      refine OW.nil ?_
      refine hK8 _ _ ?_
      refine CW.ret ?_
      -- ret (ret)
      exact fin1 (Or.inr rfl) rfl ⟨by decide, (by (conv => lhs; whnf) <;> rfl)⟩ (fun w hw => ⟨rfl, hw.sub (by simp)⟩)
set_option maxRecDepth 100000 in
set_option maxHeartbeats 1000000 in
theorem node_calls (a b : Hash) (w : World) (hg : GL w) :
    Calls Tryd.prog 27 #[HV a, HV b] w fun e w' => e = .returned (HV (node a b)) ∧ Cl w [] [] w' := by
  have hla := hb_length a
  have hlb := hb_length b
  refine calls_of_CW (L := []) Tryd.func27 rfl (Nat.le_of_ble_eq_true rfl) (Cl.refl _) ?_
  refine CW.seq_k fun K1 hK1 => ?_
  refine CW.region ?_
  refine OW.box (cs := hc a) rfl rfl rfl (by (conv => lhs; whnf) <;> rfl) rfl (fun b2 => ?_)
  refine OW.box (cs := hc b) rfl rfl rfl (by (conv => lhs; whnf) <;> rfl) rfl (fun b3 => ?_)
  refine OW.alloc rfl rfl rfl tz25 (fun b4 => ?_)
  refine OW.nil ?_
  refine hK1 _ _ ?_
  refine CW.seq_k fun K2 hK2 => ?_
  refine CW.drawT 7 mixed (by kernel_rfl) ?_
  refine QW.q rfl rfl (yq_loadH (v := a) rfl (by (conv => lhs; whnf) <;> rfl) ti25 (List.mem_cons_of_mem _ (List.mem_cons_of_mem _ (List.mem_cons_self ..)))) ?_
  refine QW.q rfl rfl (yq_call rfl rfl (.cons (by (conv => lhs; whnf) <;> rfl) .nil) en103 (fun w hw => hash_calls _ w)) ?_
  refine QW.q rfl rfl (yq_add_bs (a := [1]) rfl (by (conv => lhs; whnf) <;> rfl) (by (conv => lhs; whnf) <;> rfl) (by simp only [List.length_cons, List.length_nil]; omega)) ?_
  refine QW.q rfl rfl (yq_loadH (v := b) rfl (by (conv => lhs; whnf) <;> rfl) ti25 (List.mem_cons_of_mem _ (List.mem_cons_self ..))) ?_
  refine QW.q rfl rfl (yq_call rfl rfl (.cons (by (conv => lhs; whnf) <;> rfl) .nil) en103 (fun w hw => hash_calls _ w)) ?_
  refine QW.q rfl rfl (yq_add_bs rfl (by (conv => lhs; whnf) <;> rfl) (by (conv => lhs; whnf) <;> rfl) (by simp only [List.length_append, List.length_cons, List.length_nil]; omega)) ?_
  refine QW.q rfl rfl (yq_call rfl rfl (.cons (by (conv => lhs; whnf) <;> rfl) .nil) en100 (fun w hw => sum_calls _ w (by simp [hb_length]) (Cl_gl0 hw hg))) ?_
  refine QW.nil ?_
  refine OW.storeH rfl rfl rfl (by (conv => lhs; whnf) <;> rfl) (by (conv => lhs; whnf) <;> rfl) ti25 .head (hc_length _) ?_
  refine OW.nil ?_
  refine hK2 _ _ ?_
  refine CW.ret ?_
  -- ret (ret)
  rw [node_eq]
  exact fin1 (Or.inr rfl) rfl (rv_hash (by decide) (by (conv => lhs; whnf) <;> rfl) ti25 (List.mem_cons_self ..)) (fun w hw => ⟨rfl, hw.sub (by simp)⟩)
set_option maxRecDepth 100000 in
set_option maxHeartbeats 1000000 in
theorem refnode_calls (a b : Hash) (w : World) :
    Calls Tryd.prog 38 #[HV a, HV b] w fun e w' => e = .returned (HV (node a b)) ∧ Cl w [] [] w' := by
  have hla := hb_length a
  have hlb := hb_length b
  refine calls_of_CW (L := []) Tryd.func38 rfl (Nat.le_of_ble_eq_true rfl) (Cl.refl _) ?_
  refine CW.seq_k fun K1 hK1 => ?_
  refine CW.region ?_
  refine OW.box (cs := hc a) rfl rfl rfl (by (conv => lhs; whnf) <;> rfl) rfl (fun b2 => ?_)
  refine OW.box (cs := hc b) rfl rfl rfl (by (conv => lhs; whnf) <;> rfl) rfl (fun b3 => ?_)
  refine OW.alloc rfl rfl rfl tz25 (fun b4 => ?_)
  refine OW.nil ?_
  refine hK1 _ _ ?_
  refine CW.seq_k fun K2 hK2 => ?_
  refine CW.drawT 7 mixed (by kernel_rfl) ?_
  refine QW.q rfl rfl (yq_loadH (v := a) rfl (by (conv => lhs; whnf) <;> rfl) ti25 (List.mem_cons_of_mem _ (List.mem_cons_of_mem _ (List.mem_cons_self ..)))) ?_
  refine QW.q rfl rfl (yq_call rfl rfl (.cons (by (conv => lhs; whnf) <;> rfl) .nil) en114 (fun w hw => refhash_calls _ w)) ?_
  refine QW.q rfl rfl (yq_add_bs (a := [1]) rfl (by (conv => lhs; whnf) <;> rfl) (by (conv => lhs; whnf) <;> rfl) (by simp only [List.length_cons, List.length_nil]; omega)) ?_
  refine QW.q rfl rfl (yq_loadH (v := b) rfl (by (conv => lhs; whnf) <;> rfl) ti25 (List.mem_cons_of_mem _ (List.mem_cons_self ..))) ?_
  refine QW.q rfl rfl (yq_call rfl rfl (.cons (by (conv => lhs; whnf) <;> rfl) .nil) en114 (fun w hw => refhash_calls _ w)) ?_
  refine QW.q rfl rfl (yq_add_bs rfl (by (conv => lhs; whnf) <;> rfl) (by (conv => lhs; whnf) <;> rfl) (by simp only [List.length_append, List.length_cons, List.length_nil]; omega)) ?_
  refine QW.q rfl rfl (yq_call rfl rfl (.cons (by (conv => lhs; whnf) <;> rfl) .nil) en102 (fun w hw => refsum_calls _ w (by simp [hb_length]))) ?_
  refine QW.nil ?_
  refine OW.storeH rfl rfl rfl (by (conv => lhs; whnf) <;> rfl) (by (conv => lhs; whnf) <;> rfl) ti25 .head (hc_length _) ?_
  refine OW.nil ?_
  refine hK2 _ _ ?_
  refine CW.ret ?_
  -- ret (ret)
  rw [node_eq]
  exact fin1 (Or.inr rfl) rfl (rv_hash (by decide) (by (conv => lhs; whnf) <;> rfl) ti25 (List.mem_cons_self ..)) (fun w hw => ⟨rfl, hw.sub (by simp)⟩)
theorem spI_nat (n : Nat) : spI (n : Int) = (sp n : Int) := rfl
end Go.Proofs.YtahdekllphehkaaDoor
namespace Go.Proofs.YtahdekllphehkaaDoor
open Go.WL Go.Spec
set_option maxRecDepth 100000 in
set_option maxHeartbeats 1000000 in
theorem refsplit_calls (n : Int) (w : World) (h1 : -9223372036854775808 ≤ n) (h2 : n ≤ 9223372036854775807) :
    Calls Tryd.prog 39 #[.int .i64 n] w fun e w' => e = .returned (.int .i64 (spI n)) ∧ Cl w [] [] w' := by
  refine calls_of_CW (L := []) Tryd.func39 rfl (Nat.le_of_ble_eq_true rfl) (Cl.refl _) ?_
  refine CW.seq_k fun K1 hK1 => ?_
  refine CW.region ?_
  refine OW.q rfl rfl (yq_assign rfl (by (conv => lhs; whnf) <;> rfl)) ?_
  refine OW.nil ?_
  refine hK1 _ _ ?_
  refine CW.seq_k fun K2 hK2 => ?_
  refine CW.region ?_
  refine OW.q rfl rfl (yq_assign rfl (by (conv => lhs; whnf) <;> rfl)) ?_
  refine OW.nil ?_
  refine hK2 _ _ ?_
  refine CW.seq_k fun K3 hK3 => ?_
  refine CW.seq_k fun K4 hK4 => ?_
  refine CW.region ?_
  refine OW.q rfl rfl (yq_assign rfl (by (conv => lhs; whnf) <;> rfl)) ?_
  refine OW.nil ?_
  refine hK4 _ _ ?_
  refine CW.block ?_
  refine CW.loop (σ := Nat) (fun j ρ L => ∃ m k : Int, Has ρ [(0, .int .i64 n), (3, .int .i64 k), (4, .int .i64 m)] ∧ ((j = 0 ∧ m = 1 ∧ k = 0) ∨ (∃ i, j = i + 1 ∧ i ≤ 62 ∧ k = ((2 ^ i : Nat) : Int) ∧ ((2 ^ i : Nat) : Int) < n ∧ ((i < 62 ∧ m = ((2 ^ (i + 1) : Nat) : Int)) ∨ (i = 62 ∧ m = -9223372036854775808)))) ∧ L = []) (fun j => 64 - j) (0) ?_ ?_
  · exact ⟨1, 0, Has.mk ⟨(by (conv => lhs; whnf) <;> rfl), (by (conv => lhs; whnf) <;> rfl), (by (conv => lhs; whnf) <;> rfl), trivial⟩, .inl ⟨rfl, rfl, rfl⟩, rfl⟩
  · rintro j _ _ ⟨m, k, ⟨ρ', rfl⟩, hst, rfl⟩
    have h62 : (2 : Nat) ^ 62 = 4611686018427387904 := by decide
    have h63 : (2 : Nat) ^ (62 + 1) = 9223372036854775808 := by decide
    refine CW.seq_k fun K5 hK5 => ?_
    refine CW.seq_k fun K6 hK6 => ?_
    refine CW.region ?_
    refine OW.q rfl rfl (yq_move rfl (by (conv => lhs; whnf) <;> rfl)) ?_
    refine OW.q rfl rfl (yq_move rfl (by (conv => lhs; whnf) <;> rfl)) ?_
    refine OW.q rfl rfl (yq_lss rfl (by (conv => lhs; whnf) <;> rfl) (by (conv => lhs; whnf) <;> rfl)) ?_
    by_cases hc : m < n
    · have hd : decide (m < n) = true := decide_eq_true hc
      rw [hd]
      refine OW.q rfl rfl (yq_move rfl (by (conv => lhs; whnf) <;> rfl)) ?_
      refine OW.q rfl rfl (yq_move rfl (by (conv => lhs; whnf) <;> rfl)) ?_
      refine OW.q rfl rfl (yq_gtr rfl (by (conv => lhs; whnf) <;> rfl) (by (conv => lhs; whnf) <;> rfl)) ?_
      by_cases hm : 0 < m
      · have hd2 : decide (0 < m) = true := decide_eq_true hm
        rw [hd2]
        refine OW.q rfl rfl (yq_pick rfl (by (conv => lhs; whnf) <;> rfl) (by (conv => lhs; whnf) <;> rfl)) ?_
        refine OW.nil ?_
        refine hK6 _ _ ?_
        refine CW.cond_t (by (conv => lhs; whnf) <;> rfl) ?_
        refine CW.skip ?_
        refine hK5 _ _ ?_
        refine CW.seq_k fun K7 hK7 => ?_
        refine CW.block ?_
        refine CW.region ?_
        refine OW.q rfl rfl (yq_move rfl (by (conv => lhs; whnf) <;> rfl)) ?_
        refine OW.q rfl rfl (yq_assign rfl (by (conv => lhs; whnf) <;> rfl)) ?_
        refine OW.nil ?_
        refine hK7 _ _ ?_
        refine CW.region ?_
        refine OW.q rfl rfl (yq_move rfl (by (conv => lhs; whnf) <;> rfl)) ?_
        refine OW.q rfl rfl (yq_mul_e rfl (by (conv => lhs; whnf) <;> rfl) (by (conv => lhs; whnf) <;> rfl) rfl) ?_
        refine OW.q rfl rfl (yq_assign rfl (by (conv => lhs; whnf) <;> rfl)) ?_
        refine OW.nil ?_
        rcases hst with ⟨rfl, rfl, rfl⟩ | ⟨i, rfl, hi, rfl, hin, ⟨hi2, rfl⟩ | ⟨rfl, rfl⟩⟩
        · exact ⟨1, ⟨_, _, Has.mk ⟨(by (conv => lhs; whnf) <;> rfl), (by (conv => lhs; whnf) <;> rfl), (by (conv => lhs; whnf) <;> rfl), trivial⟩, .inr ⟨0, rfl, by omega, rfl, hc, .inl ⟨by omega, by decide⟩⟩, rfl⟩, by omega⟩
        · refine ⟨i + 2, ⟨_, _, Has.mk ⟨(by (conv => lhs; whnf) <;> rfl), (by (conv => lhs; whnf) <;> rfl), (by (conv => lhs; whnf) <;> rfl), trivial⟩, .inr ⟨i + 1, rfl, by omega, rfl, hc, ?_⟩, rfl⟩, by omega⟩
          rcases Nat.lt_or_ge (i + 1) 62 with h | h
          · refine .inl ⟨h, ?_⟩
            have h1 : 2 ^ (i + 1) ≤ 2 ^ 61 := Nat.pow_le_pow_right (by decide) (by omega)
            have h61 : (2 : Nat) ^ 61 = 2305843009213693952 := by decide
            have hp : 2 ^ (i + 1 + 1) = 2 ^ (i + 1) * 2 := Nat.pow_succ ..
            rw [wrap64_in (by omega)]; omega
          · have : i = 61 := by omega
            subst this
            exact .inr ⟨rfl, by decide⟩
        · omega
      · have hd2 : decide (0 < m) = false := decide_eq_false hm
        rw [hd2]
        refine OW.q rfl rfl (yq_pick rfl (by (conv => lhs; whnf) <;> rfl) (by (conv => lhs; whnf) <;> rfl)) ?_
        refine OW.nil ?_
        refine hK6 _ _ ?_
        refine CW.cond_f (by (conv => lhs; whnf) <;> rfl) ?_
        refine CW.exit ?_
        refine then_exit ?_
        refine then_exit ?_
        refine blockQ_hit ?_
        refine hK3 _ _ ?_
        refine CW.seq_k fun K8 hK8 => ?_
        refine CW.region ?_
        refine OW.q rfl rfl (yq_move rfl (by (conv => lhs; whnf) <;> rfl)) ?_
        refine OW.q rfl rfl (yq_assign rfl (by (conv => lhs; whnf) <;> rfl)) ?_
        refine OW.nil ?_
        refine hK8 _ _ ?_
        refine CW.ret ?_
        -- ret (ret)
        have hz : spI n = k := by
          rcases hst with ⟨rfl, rfl, rfl⟩ | ⟨i, rfl, hi, rfl, hin, ⟨hi2, rfl⟩ | ⟨rfl, rfl⟩⟩
          · omega
          · have := Nat.two_pow_pos (i + 1); omega
          · rw [spI, sp_of (n := n.toNat) (j := 62) (by omega) (by omega)]
        exact fin1 (Or.inr rfl) rfl ⟨by decide, by rw [hz]; exact (by (conv => lhs; whnf) <;> rfl)⟩ (fun w hw => ⟨rfl, hw⟩)
    · have hd : decide (m < n) = false := decide_eq_false hc
      rw [hd]
      refine OW.q rfl rfl (yq_move rfl (by (conv => lhs; whnf) <;> rfl)) ?_
      refine OW.skip rfl rfl ?_
      refine OW.skip rfl rfl ?_
      refine OW.q rfl rfl (yq_pick rfl (by (conv => lhs; whnf) <;> rfl) (by (conv => lhs; whnf) <;> rfl)) ?_
      refine OW.nil ?_
      refine hK6 _ _ ?_
      refine CW.cond_f (by (conv => lhs; whnf) <;> rfl) ?_
      refine CW.exit ?_
      refine then_exit ?_
      refine then_exit ?_
      refine blockQ_hit ?_
      refine hK3 _ _ ?_
      refine CW.seq_k fun K9 hK9 => ?_
      refine CW.region ?_
      refine OW.q rfl rfl (yq_move rfl (by (conv => lhs; whnf) <;> rfl)) ?_
      refine OW.q rfl rfl (yq_assign rfl (by (conv => lhs; whnf) <;> rfl)) ?_
      refine OW.nil ?_
      refine hK9 _ _ ?_
      refine CW.ret ?_
      -- ret (ret)
      have hz : spI n = k := by
        rcases hst with ⟨rfl, rfl, rfl⟩ | ⟨i, rfl, hi, rfl, hin, ⟨hi2, rfl⟩ | ⟨rfl, rfl⟩⟩
        · rw [spI, sp_zero (by omega)]; rfl
        · rw [spI, sp_of (n := n.toNat) (j := i) (by omega) (by omega)]
        · omega
      exact fin1 (Or.inr rfl) rfl ⟨by decide, by rw [hz]; exact (by (conv => lhs; whnf) <;> rfl)⟩ (fun w hw => ⟨rfl, hw⟩)
theorem rsplit_c (n r : Int) (w : World) (hr : spI n = r) (h1 : -9223372036854775808 ≤ n) (h2 : n ≤ 9223372036854775807) : Calls Tryd.prog 39 #[.int .i64 n] w fun e w' => e = .returned (.int .i64 r) ∧ Cl w [] [] w' := hr ▸ refsplit_calls n w h1 h2
end Go.Proofs.YtahdekllphehkaaDoor
namespace Go.Spec
open Go.WL
/-! ### numbers of bytes -/
def toN (l : Bytes) : Nat := l.foldl (fun n x => n * 256 + x.toNat) 0
/-- A hash as a number. -/
def hN (h : Hash) : Nat := toN h.toList
end Go.Spec
namespace Go.Proofs.YtahdekllphehkaaDoor
open Go.WL Go.Spec
end Go.Proofs.YtahdekllphehkaaDoor
namespace Go.Proofs.YtahdekllphehkaaDoor
open Go.WL Go.Spec
end Go.Proofs.YtahdekllphehkaaDoor
namespace Go.Proofs.YtahdekllphehkaaDoor
open Go.WL Go.Spec
end Go.Proofs.YtahdekllphehkaaDoor
