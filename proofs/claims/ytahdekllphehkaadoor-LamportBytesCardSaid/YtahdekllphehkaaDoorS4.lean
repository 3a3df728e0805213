/- Keys that sign once, as plain Lean functions: what is recovered of a signature is what stands for its key; no statement of the seat is proved here. -/
import Derived.Test.YtahdekllphehkaaDoorS3
set_option linter.unusedVariables false
set_option linter.unusedSimpArgs false
namespace Go.Proofs.YtahdekllphehkaaDoor
open Go.WL Go.Spec

def secretN (seed : Bytes) (index k : Nat) : Hash := sha ([2] ++ textB seed ++ putB (UInt64.ofNat index) 4 ++ putB (UInt64.ofNat k) 2)
def secretL (seed : Bytes) (index i bit : Int) : Hash :=
  if index < 0 ∨ 2147483648 ≤ index ∨ i < 0 ∨ 256 ≤ i ∨ bit < 0 ∨ 1 < bit then zeroHash else secretN seed index.toNat (2 * i.toNat + bit.toNat)
def shownL (b : Bytes) : Hash := sha ([3] ++ b)
def pubL (seed : Bytes) (index k : Nat) : Hash := shownL (hb (secretN seed index k))
def publicL (seed : Bytes) (index : Nat) : List Hash := (List.range 512).map (pubL seed index)
def keyLeaf (l : List Hash) : Hash := if l.length = 512 then sha ([4] ++ l.flatMap hb) else zeroHash
/-- A bit of bytes. -/
def bitB (s : Bytes) (i : Nat) : Nat := (s.getD (i / 8) 0).toNat / 2 ^ (7 - i % 8) % 2
theorem bitB_lt (s : Bytes) (i : Nat) : bitB s i < 2 := Nat.mod_lt _ (by decide)
def signA (seed : Bytes) (index : Nat) (d : Bytes) (n : Nat) : Bytes := (List.range n).flatMap fun i => hb (secretN seed index (2 * i + bitB d i))
def signO (seed : Bytes) (index : Nat) (d : Bytes) (n : Nat) : Bytes := (List.range n).flatMap fun i => hb (pubL seed index (2 * i + 1 - bitB d i))
def signB (seed : Bytes) (index : Nat) (d : Bytes) : Bytes := signA seed index d 256 ++ signO seed index d 256
def cut32 (s : Bytes) (i : Nat) : Bytes := (s.drop (32 * i)).take 32
def recK (sig d : Bytes) (k : Nat) : Hash := if k % 2 = bitB d (k / 2) then shownL (cut32 sig (k / 2)) else toH (cut32 sig (256 + k / 2))
def recL (sig d : Bytes) : List Hash := (List.range 512).map (recK sig d)

theorem flatMap_range_length (f : Nat → Hash) (n : Nat) : ((List.range n).flatMap fun i => hb (f i)).length = 32 * n := by
  rw [show ((List.range n).flatMap fun i => hb (f i)) = ((List.range n).map f).flatMap hb by rw [List.flatMap_map], flatHb_length, List.length_map, List.length_range]
theorem cut32_flat (f : Nat → Hash) (n : Nat) : ∀ (i : Nat) (r : Bytes), i < n → cut32 (((List.range n).flatMap fun i => hb (f i)) ++ r) i = hb (f i) := by
  induction n with
  | zero => intro i r h; omega
  | succ n ih =>
    intro i r h
    rw [List.range_succ, List.flatMap_append, List.flatMap_singleton, List.append_assoc]
    rcases Nat.lt_or_ge i n with h1 | h1
    · exact ih i _ h1
    · have : i = n := by omega
      subst this
      unfold cut32
      rw [List.drop_left' (flatMap_range_length f i), List.take_left' (hb_length _)]
theorem signA_length (seed : Bytes) (index : Nat) (d : Bytes) (n : Nat) : (signA seed index d n).length = 32 * n := flatMap_range_length _ n
theorem signO_length (seed : Bytes) (index : Nat) (d : Bytes) (n : Nat) : (signO seed index d n).length = 32 * n := flatMap_range_length _ n
theorem signB_length (seed : Bytes) (index : Nat) (d : Bytes) : (signB seed index d).length = 16384 := by unfold signB; rw [List.length_append, signA_length, signO_length]
theorem cut_signA (seed : Bytes) (index : Nat) (d : Bytes) (i : Nat) (h : i < 256) : cut32 (signB seed index d) i = hb (secretN seed index (2 * i + bitB d i)) := cut32_flat (fun i => secretN seed index (2 * i + bitB d i)) 256 i _ h
theorem cut_signO (seed : Bytes) (index : Nat) (d : Bytes) (i : Nat) (h : i < 256) : cut32 (signB seed index d) (256 + i) = hb (pubL seed index (2 * i + 1 - bitB d i)) := by
  have e : cut32 (signB seed index d) (256 + i) = cut32 (signO seed index d 256 ++ []) i := by
    unfold cut32 signB
    rw [show 32 * (256 + i) = 32 * 256 + 32 * i by omega, ← List.drop_drop, List.drop_left' (signA_length _ _ _ _), List.append_nil]
  rw [e]
  exact cut32_flat (fun i => pubL seed index (2 * i + 1 - bitB d i)) 256 i _ h
theorem rec_sign (seed : Bytes) (index : Nat) (d : Bytes) : recL (signB seed index d) d = publicL seed index := by
  unfold recL publicL
  refine List.map_congr_left fun k hk => ?_
  have hk : k < 512 := List.mem_range.1 hk
  have hb2 := bitB_lt d (k / 2)
  unfold recK
  by_cases h : k % 2 = bitB d (k / 2)
  · rw [if_pos h, cut_signA _ _ _ _ (by omega), ← h, show 2 * (k / 2) + k % 2 = k by omega]
    rfl
  · rw [if_neg h, cut_signO _ _ _ _ (by omega), toH_hb, show 2 * (k / 2) + 1 - bitB d (k / 2) = k by omega]
theorem publicL_length (seed : Bytes) (index : Nat) : (publicL seed index).length = 512 := by simp [publicL]
theorem recL_length (sig d : Bytes) : (recL sig d).length = 512 := by simp [recL]
theorem secretL_in (seed : Bytes) (index i bit : Nat) (h1 : index < 2147483648) (h2 : i < 256) (h3 : bit < 2) : secretL seed (index : Int) (i : Int) (bit : Int) = secretN seed index (2 * i + bit) := by
  unfold secretL
  rw [if_neg (by omega)]
  simp
attribute [irreducible] secretN secretL shownL pubL publicL keyLeaf bitB signA signO signB cut32 recK recL
end Go.Proofs.YtahdekllphehkaaDoor
