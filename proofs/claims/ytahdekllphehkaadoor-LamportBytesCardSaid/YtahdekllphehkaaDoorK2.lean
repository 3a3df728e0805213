/- What stands for a key, over numbers, for the kernel; no statement of the seat is proved here. -/
import Derived.Test.YtahdekllphehkaaDoorS4
import Derived.Test.YtahdekllphehkaaDoorK1
set_option linter.unusedVariables false
namespace Go.Proofs.YtahdekllphehkaaDoor
open Go.WL Go.Spec

def secK (len t index k : Nat) : Nat := shaN (len + 7) (((2 * 256 ^ len + t) * 4294967296 + index) * 65536 + k)
def pubK (len t index k : Nat) : Nat := force (secK len t index k) fun x => shaN 33 (3 * 256 ^ 32 + x)
def foldK (f : Nat → Nat) : Nat → Nat → Nat → Nat
  | 0, _, acc => acc
  | n + 1, k, acc => force (f k) fun x => force (acc * 256 ^ 32 + x) fun acc' => force (k + 1) fun k' => foldK f n k' acc'
def keyK (f : Nat → Nat) : Nat := force (foldK f 512 0 4) fun x => shaN 16385 x
def nodeK (a b : Nat) : Nat := shaN 65 ((256 ^ 32 + a) * 256 ^ 32 + b)

theorem hb_hN (h : Hash) : toN (hb h) = hN h := rfl
theorem foldK_eq (f : Nat → Nat) (g : Nat → Hash) : ∀ (n k acc : Nat), k + n ≤ 512 → (∀ i, i < 512 → f i = hN (g i)) → foldK f n k acc = acc * 256 ^ (32 * n) + toN (((List.range' k n).map g).flatMap hb)
  | 0, k, acc, _, _ => by rw [foldK]; simp [toN]
  | n + 1, k, acc, hk, h => by
    rw [foldK]
    simp only [force_eq]
    rw [show (force (k + 1) fun k' => foldK f n k' (acc * 256 ^ 32 + f k)) = foldK f n (k + 1) (acc * 256 ^ 32 + f k) from rfl]
    rw [foldK_eq f g n (k + 1) _ (by omega) h, List.range'_succ, List.map_cons, List.flatMap_cons, toN_append, flatHb_length, List.length_map, List.length_range', h k (by omega), hb_hN]
    rw [show 32 * (n + 1) = 32 + 32 * n by omega, Nat.pow_add, Nat.add_mul, Nat.mul_assoc, Nat.add_assoc]
theorem keyK_eq (f : Nat → Nat) (g : Nat → Hash) (h : ∀ i, i < 512 → f i = hN (g i)) : keyK f = hN (keyLeaf ((List.range 512).map g)) := by
  have hl : (([4] : Bytes) ++ ((List.range 512).map g).flatMap hb).length = 16385 := by rw [List.length_append, flatHb_length, List.length_map, List.length_range]; rfl
  unfold keyK keyLeaf
  rw [force_eq, foldK_eq f g 512 0 4 (by decide) h, if_pos (by rw [List.length_map, List.length_range]), hN_sha _ (by rw [hl]; decide), hl, toN_append, flatHb_length, List.length_map, List.length_range, show toN [4] = 4 from rfl, List.range_eq_range']
theorem secK_eq (seed : Bytes) (index k : Nat) (hi : index < 4294967296) (hk : k < 65536) (hl : (textB seed).length ≤ 1000) : secK (textB seed).length (toN (textB seed)) index k = hN (secretN seed index k) := by
  unfold secK secretN
  rw [hN_sha _ (by simp [putB_length]; omega), toN_append, toN_append, toN_append, toN_putB, toN_putB, putB_length, putB_length]
  simp only [List.length_append, putB_length, List.length_cons, List.length_nil]
  have e1 : (UInt64.ofNat index).toNat % 256 ^ 4 = index := by
    rw [UInt64.toNat_ofNat']
    show index % 18446744073709551616 % 4294967296 = index
    omega
  have e2 : (UInt64.ofNat k).toNat % 256 ^ 2 = k := by
    rw [UInt64.toNat_ofNat']
    show k % 18446744073709551616 % 65536 = k
    omega
  rw [e1, e2, show toN [2] = 2 from rfl, show (256 : Nat) ^ 4 = 4294967296 from rfl, show (256 : Nat) ^ 2 = 65536 from rfl, show 0 + 1 + (textB seed).length + 4 + 2 = (textB seed).length + 7 by omega]
theorem pubK_eq (seed : Bytes) (index k : Nat) (hi : index < 4294967296) (hk : k < 65536) (hl : (textB seed).length ≤ 1000) : pubK (textB seed).length (toN (textB seed)) index k = hN (pubL seed index k) := by
  unfold pubK pubL shownL
  rw [force_eq, secK_eq seed index k hi hk hl, hN_sha _ (by simp [hb_length]), toN_append, List.length_append, hb_length, hb_hN]
  rfl
theorem keyK_key (seed : Bytes) (index : Nat) (hi : index < 4294967296) (hl : (textB seed).length ≤ 1000) : keyK (pubK (textB seed).length (toN (textB seed)) index) = hN (keyLeaf (publicL seed index)) := by
  rw [keyK_eq _ (pubL seed index) fun i h => pubK_eq seed index i hi (by omega) hl]
  unfold publicL; rfl
end Go.Proofs.YtahdekllphehkaaDoor
