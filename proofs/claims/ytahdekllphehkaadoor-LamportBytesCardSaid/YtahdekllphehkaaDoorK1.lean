/- The leaves of the statements, by a number; the root of three is not zero (by the kernel's own reckoning); no statement of the seat is proved here. -/
import Derived.Test.YtahdekllphehkaaDoorK0
import Derived.Test.YtahdekllphehkaaDoorA9
set_option linter.unusedVariables false
namespace Go.Proofs.YtahdekllphehkaaDoor
open Go.WL Go.Spec

def someH (seed : UInt8) (i : Nat) : Hash := hashOf ([seed, UInt8.ofNat i, UInt8.ofNat (i / 256), 1] ++ List.replicate 28 0) rfl
def someL (seed : UInt8) (n : Nat) : List Hash := (List.range n).map (someH seed)
theorem someL_length (seed : UInt8) (n : Nat) : (someL seed n).length = n := by simp [someL]
theorem someL_succ (seed : UInt8) (n : Nat) : someL seed (n + 1) = someL seed n ++ [someH seed n] := by simp [someL, List.range_succ]
theorem rootL_two (a b : Hash) : rootL [a, b] = node a b := by
  rw [rootL_more _ (by simp), show ([a, b] : List Hash).length = 2 from rfl, show sp 2 = 1 by unfold sp; decide]
  simp [rootL_one]
theorem rootL_three (a b c : Hash) : rootL [a, b, c] = node (node a b) c := by
  rw [rootL_more _ (by simp), show ([a, b, c] : List Hash).length = 3 from rfl, show sp 3 = 2 by unfold sp; decide]
  simp [rootL_one, rootL_two]
theorem someL3 : someL 7 3 = [someH 7 0, someH 7 1, someH 7 2] := rfl
theorem sp_dec (n : Nat) : sp n = if n < 2 then 0 else 2 ^ (n - 1).log2 := by unfold sp; rfl

theorem hN_node (a b : Hash) : hN (node a b) = shaN 65 ((256 ^ 32 + hN a) * 256 ^ 32 + hN b) := by
  rw [node_eq, hN_sha _ (by simp [hb_length]), toN_append, toN_append]
  simp only [List.length_append, hb_length, List.length_cons, List.length_nil]
  rfl
theorem hN_leaf (s : Bytes) (h : s.length ≤ 4294967295) : hN (leaf s) = shaN (s.length + 1) (toN s) := by
  rw [leaf_eq, hN_sha _ (by simp; omega), toN_append, List.length_append, show toN [0] = 0 from rfl, Nat.zero_mul, Nat.zero_add, Nat.add_comm]
  rfl
theorem hN_some (i : Nat) (hi : i < 256) : hN (someH 7 i) = 7 * 256 ^ 31 + i * 256 ^ 30 + 256 ^ 28 := by
  have e : (someH 7 i).toList = [7, UInt8.ofNat i, UInt8.ofNat (i / 256), 1] ++ List.replicate 28 0 := by unfold someH hashOf; simp
  unfold hN
  rw [e, toN_append, toN_zeros, List.length_replicate]
  have h1 : (UInt8.ofNat i).toNat = i := by simp; omega
  have h2 : (UInt8.ofNat (i / 256)).toNat = 0 := by rw [Nat.div_eq_of_lt hi]; rfl
  have h3 : toN [7, UInt8.ofNat i, UInt8.ofNat (i / 256), 1] = 7 * 16777216 + i * 65536 + 1 := by
    simp only [toN, List.foldl_cons, List.foldl_nil, h1, h2]
    show (((0 * 256 + 7) * 256 + i) * 256 + 0) * 256 + 1 = _
    omega
  rw [h3]
  have : (256 : Nat) ^ 28 = 26959946667150639794667015087019630673637144422540572481103610249216 := by decide
  have : (256 : Nat) ^ 31 = 452312848583266388373324160190187140051835877600158453279131187530910662656 := by decide
  have : (256 : Nat) ^ 30 = 1766847064778384329583297500742918515827483896875618958121606201292619776 := by decide
  omega
theorem hN_zero : hN zeroHash = 0 := by kernel_rfl
theorem grown_nz : rootL (someL 7 3) ≠ zeroHash := by
  refine hN_inj ?_
  rw [hN_zero, someL3, rootL_three, hN_node, hN_node, hN_some 0 (by decide), hN_some 1 (by decide), hN_some 2 (by decide)]
  exact Nat.ne_of_beq_eq_false (by decide +kernel)
attribute [irreducible] someH
end Go.Proofs.YtahdekllphehkaaDoor
