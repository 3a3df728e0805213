/- Numbers, texts, hashes and lists as bytes, as plain Lean functions: what is put is read, and nothing else is; no statement of the seat is proved here. -/
import Derived.Test.YtahdekllphehkaaDoorA8
set_option linter.unusedVariables false
set_option linter.unusedSimpArgs false
namespace Go.Proofs.YtahdekllphehkaaDoor
open Go.WL Go.Spec

def aheadB (n : Nat) : Bytes := if h : n < 128 then [UInt8.ofNat (n + 128)] else aheadB (n / 128) ++ [UInt8.ofNat (n % 128 + 128)]
termination_by n
theorem aheadB_small {n : Nat} (h : n < 128) : aheadB n = [UInt8.ofNat (n + 128)] := by rw [aheadB, dif_pos h]
theorem aheadB_more {n : Nat} (h : ¬ n < 128) : aheadB n = aheadB (n / 128) ++ [UInt8.ofNat (n % 128 + 128)] := by rw [aheadB, dif_neg h]
/-- A number in as few bytes as need be. -/
def numB (n : Nat) : Bytes := if n < 128 then [UInt8.ofNat n] else aheadB (n / 128) ++ [UInt8.ofNat (n % 128)]
theorem numB_small {n : Nat} (h : n < 128) : numB n = [UInt8.ofNat n] := by rw [numB, if_pos h]
theorem numB_more {n : Nat} (h : ¬ n < 128) : numB n = aheadB (n / 128) ++ [UInt8.ofNat (n % 128)] := by rw [numB, if_neg h]
/-- What stands ahead, some bytes of it being read. -/
def readP : Nat → Bytes → Option (Nat × Bytes)
  | _, [] => none
  | n, c :: t => if n = 0 ∧ c.toNat = 128 ∨ 144115188075855872 ≤ n then none else if c.toNat < 128 then some (n * 128 + c.toNat % 128, t) else readP (n * 128 + c.toNat % 128) t
theorem readP_nil (n : Nat) : readP n [] = none := by rw [readP]
theorem readP_none {n : Nat} {c : UInt8} {t : Bytes} (h : n = 0 ∧ c.toNat = 128 ∨ 144115188075855872 ≤ n) : readP n (c :: t) = none := by rw [readP, if_pos h]
theorem readP_last {n : Nat} {c : UInt8} {t : Bytes} (h : ¬ (n = 0 ∧ c.toNat = 128 ∨ 144115188075855872 ≤ n)) (hc : c.toNat < 128) : readP n (c :: t) = some (n * 128 + c.toNat % 128, t) := by rw [readP, if_neg h, if_pos hc]
theorem readP_more {n : Nat} {c : UInt8} {t : Bytes} (h : ¬ (n = 0 ∧ c.toNat = 128 ∨ 144115188075855872 ≤ n)) (hc : ¬ c.toNat < 128) : readP n (c :: t) = readP (n * 128 + c.toNat % 128) t := by rw [readP, if_neg h, if_neg hc]
def readB (s : Bytes) : Option (Nat × Bytes) := readP 0 s
theorem u8_nat {k : Nat} (h : k < 256) : (UInt8.ofNat k).toNat = k := by simp; omega
theorem u8_of_nat (c : UInt8) : UInt8.ofNat c.toNat = c := by simp
theorem readP_ahead (m : Nat) : ∀ (t : Bytes), 0 < m → m < 144115188075855872 → readP 0 (aheadB m ++ t) = readP m t := by
  induction m using Nat.strongRecOn with
  | _ m ih =>
    intro t h0 h1
    rcases Nat.lt_or_ge m 128 with h | h
    · rw [aheadB_small h, List.singleton_append, readP_more (by rw [u8_nat (by omega)]; omega) (by rw [u8_nat (by omega)]; omega), u8_nat (by omega)]
      congr 1; omega
    · rw [aheadB_more (by omega), List.append_assoc, ih (m / 128) (by omega) _ (by omega) (by omega), List.singleton_append, readP_more (by rw [u8_nat (by omega)]; omega) (by rw [u8_nat (by omega)]; omega), u8_nat (by omega)]
      congr 1; omega
theorem read_num (n : Nat) (r : Bytes) (h : n < 18446744073709551616) : readB (numB n ++ r) = some (n, r) := by
  unfold readB
  rcases Nat.lt_or_ge n 128 with h1 | h1
  · rw [numB_small h1, List.singleton_append, readP_last (by rw [u8_nat (by omega)]; omega) (by rw [u8_nat (by omega)]; omega), u8_nat (by omega)]
    congr 2; omega
  · rw [numB_more (by omega), List.append_assoc, readP_ahead _ _ (by omega) (by omega), List.singleton_append, readP_last (by rw [u8_nat (by omega)]; omega) (by rw [u8_nat (by omega)]; omega), u8_nat (by omega)]
    congr 2; omega
theorem readP_num (s : Bytes) : ∀ (m n : Nat) (r : Bytes), 0 < m → readP m s = some (n, r) → aheadB m ++ s = numB n ++ r ∧ n < 18446744073709551616 := by
  induction s with
  | nil => intro m n r _ h; rw [readP_nil] at h; cases h
  | cons c t ih =>
    intro m n r hm h
    have hc := c.toNat_lt
    by_cases h1 : m = 0 ∧ c.toNat = 128 ∨ 144115188075855872 ≤ m
    · rw [readP_none h1] at h; cases h
    · by_cases h2 : c.toNat < 128
      · rw [readP_last h1 h2] at h
        simp only [Option.some.injEq, Prod.mk.injEq] at h
        obtain ⟨rfl, rfl⟩ := h
        rw [numB_more (by omega), show (m * 128 + c.toNat % 128) / 128 = m by omega, show (m * 128 + c.toNat % 128) % 128 = c.toNat by omega, u8_of_nat, List.append_assoc]
        exact ⟨rfl, by omega⟩
      · rw [readP_more h1 h2] at h
        have := ih _ _ _ (by omega) h
        rw [aheadB_more (by omega), show (m * 128 + c.toNat % 128) / 128 = m by omega, show (m * 128 + c.toNat % 128) % 128 + 128 = c.toNat by omega, u8_of_nat, List.append_assoc] at this
        exact this
theorem num_read {s : Bytes} {n : Nat} {r : Bytes} (h : readB s = some (n, r)) : s = numB n ++ r ∧ n < 18446744073709551616 := by
  unfold readB at h
  cases s with
  | nil => rw [readP_nil] at h; cases h
  | cons c t =>
    have hc := c.toNat_lt
    by_cases h1 : 0 = 0 ∧ c.toNat = 128 ∨ 144115188075855872 ≤ 0
    · rw [readP_none h1] at h; cases h
    · by_cases h2 : c.toNat < 128
      · rw [readP_last h1 h2] at h
        simp only [Option.some.injEq, Prod.mk.injEq] at h
        obtain ⟨rfl, rfl⟩ := h
        rw [numB_small (by omega), show 0 * 128 + c.toNat % 128 = c.toNat by omega, u8_of_nat]
        exact ⟨rfl, by omega⟩
      · rw [readP_more h1 h2] at h
        have := readP_num t _ _ _ (by omega) h
        rw [aheadB_small (by omega), show 0 * 128 + c.toNat % 128 + 128 = c.toNat by omega, u8_of_nat] at this
        exact this
theorem aheadB_length (j : Nat) : ∀ m, m < 128 ^ (j + 1) → 1 ≤ (aheadB m).length ∧ (aheadB m).length ≤ j + 1 := by
  induction j with
  | zero => intro m h; rw [aheadB_small (by omega)]; simp
  | succ j ih =>
    intro m h
    rcases Nat.lt_or_ge m 128 with h1 | h1
    · rw [aheadB_small h1]; simp
    · have hp : 128 ^ (j + 1 + 1) = 128 ^ (j + 1) * 128 := Nat.pow_succ ..
      have := ih (m / 128) (by omega)
      rw [aheadB_more (by omega), List.length_append]; simp; omega
theorem numB_length {n : Nat} (h : n < 18446744073709551616) : 1 ≤ (numB n).length ∧ (numB n).length ≤ 10 := by
  rcases Nat.lt_or_ge n 128 with h1 | h1
  · rw [numB_small h1]; simp
  · have := aheadB_length 8 (n / 128) (by have : (128 : Nat) ^ (8 + 1) = 9223372036854775808 := by decide
                                          omega)
    rw [numB_more (by omega), List.length_append]; simp; omega
theorem aheadB_hi (m : Nat) : ∀ c ∈ aheadB m, 128 ≤ c.toNat := by
  induction m using Nat.strongRecOn with
  | _ m ih =>
    intro c hc
    rcases Nat.lt_or_ge m 128 with h | h
    · rw [aheadB_small h, List.mem_singleton] at hc
      rw [hc, u8_nat (by omega)]; omega
    · rw [aheadB_more (by omega), List.mem_append, List.mem_singleton] at hc
      rcases hc with hc | hc
      · exact ih _ (by omega) c hc
      · rw [hc, u8_nat (by omega)]; omega
/-- A number's digits. -/
def valB (l : Bytes) : Nat := l.foldl (fun n c => n * 128 + c.toNat % 128) 0
theorem valB_snoc (l : Bytes) (c : UInt8) : valB (l ++ [c]) = valB l * 128 + c.toNat % 128 := by unfold valB; rw [List.foldl_append]; rfl
theorem valB_ahead (m : Nat) : valB (aheadB m) = m := by
  induction m using Nat.strongRecOn with
  | _ m ih =>
    rcases Nat.lt_or_ge m 128 with h | h
    · rw [aheadB_small h, ← List.nil_append [_], valB_snoc, u8_nat (by omega)]; show 0 * 128 + _ = _; omega
    · rw [aheadB_more (by omega), valB_snoc, ih _ (by omega), u8_nat (by omega)]; omega
theorem valB_num (n : Nat) : valB (numB n) = n := by
  rcases Nat.lt_or_ge n 128 with h | h
  · rw [numB_small h, ← List.nil_append [_], valB_snoc, u8_nat (by omega)]; show 0 * 128 + _ = _; omega
  · rw [numB_more (by omega), valB_snoc, valB_ahead, u8_nat (by omega)]; omega

def textB (s : Bytes) : Bytes := numB s.length ++ s
def cutB (s : Bytes) : Option (Bytes × Bytes) := match readB s with
  | none => none
  | some (n, r) => if r.length < n then none else some (r.take n, r.drop n)
theorem cut_text (s r : Bytes) (h : s.length < 18446744073709551616) : cutB (textB s ++ r) = some (s, r) := by
  unfold cutB textB
  rw [List.append_assoc, read_num _ _ h]
  show (if (s ++ r).length < s.length then none else some ((s ++ r).take s.length, (s ++ r).drop s.length)) = _
  rw [if_neg (by simp), List.take_left' rfl, List.drop_left' rfl]
theorem text_cut {s a r : Bytes} (h : cutB s = some (a, r)) : s = textB a ++ r ∧ a.length < 18446744073709551616 := by
  unfold cutB at h
  cases hr : readB s with
  | none => rw [hr] at h; cases h
  | some p =>
    obtain ⟨n, t⟩ := p
    rw [hr] at h
    obtain ⟨h1, h2⟩ := num_read hr
    by_cases hn : t.length < n
    · simp only [if_pos hn] at h; cases h
    · simp only [if_neg hn, Option.some.injEq, Prod.mk.injEq] at h
      obtain ⟨rfl, rfl⟩ := h
      have hl : (t.take n).length = n := by simp; omega
      unfold textB
      rw [hl, List.append_assoc, List.take_append_drop]
      exact ⟨h1, h2⟩
/-- A hash of so many bytes; zeros where there are none. -/
def toH (l : Bytes) : Hash := if h : l.length = 32 then hashOf l h else zeroHash
theorem hb_hashOf (l : Bytes) (h : l.length = 32) : hb (hashOf l h) = l := by unfold hb hashOf; simp
theorem hb_toH {l : Bytes} (h : l.length = 32) : hb (toH l) = l := by unfold toH; rw [dif_pos h, hb_hashOf]
theorem hb_inj {a b : Hash} (h : hb a = hb b) : a = b := toList_inj.1 h
theorem toH_hb (h : Hash) : toH (hb h) = h := hb_inj (hb_toH (hb_length h))
def unhashB (s : Bytes) : Option (Hash × Bytes) := if s.length < 32 then none else some (toH (s.take 32), s.drop 32)
theorem unhash_hash (h : Hash) (r : Bytes) : unhashB (hb h ++ r) = some (h, r) := by
  unfold unhashB
  rw [if_neg (by simp [hb_length]), List.take_left' (hb_length h), List.drop_left' (hb_length h), toH_hb]
theorem hash_unhash {s r : Bytes} {h : Hash} (e : unhashB s = some (h, r)) : s = hb h ++ r := by
  unfold unhashB at e
  by_cases hs : s.length < 32
  · rw [if_pos hs] at e; cases e
  · rw [if_neg hs] at e
    simp only [Option.some.injEq, Prod.mk.injEq] at e
    obtain ⟨rfl, rfl⟩ := e
    rw [hb_toH (by simp; omega), List.take_append_drop]
def hashesB (l : List Hash) : Bytes := if 64 < l.length then [] else numB l.length ++ l.flatMap hb
def takeH : Nat → Bytes → Option (List Hash × Bytes)
  | 0, s => some ([], s)
  | n + 1, s => match unhashB s with
    | none => none
    | some (h, r) => match takeH n r with
      | none => none
      | some (l, t) => some (h :: l, t)
def unhashesB (s : Bytes) : Option (List Hash × Bytes) := match readB s with
  | none => none
  | some (n, r) => if 64 < n then none else takeH n r
theorem takeH_flat (l : List Hash) (r : Bytes) : takeH l.length (l.flatMap hb ++ r) = some (l, r) := by
  induction l with
  | nil => rfl
  | cons h l ih => rw [List.length_cons, takeH, List.flatMap_cons, List.append_assoc, unhash_hash]; simp only [ih]
theorem flat_takeH : ∀ (n : Nat) (s : Bytes) (l : List Hash) (r : Bytes), takeH n s = some (l, r) → s = l.flatMap hb ++ r ∧ l.length = n
  | 0, s, l, r, h => by
    rw [takeH] at h
    simp only [Option.some.injEq, Prod.mk.injEq] at h
    obtain ⟨rfl, rfl⟩ := h
    exact ⟨rfl, rfl⟩
  | n + 1, s, l, r, h => by
    rw [takeH] at h
    cases hu : unhashB s with
    | none => rw [hu] at h; cases h
    | some p =>
      obtain ⟨x, t⟩ := p
      rw [hu] at h
      simp only at h
      cases ht : takeH n t with
      | none => rw [ht] at h; cases h
      | some q =>
        obtain ⟨m, z⟩ := q
        rw [ht] at h
        simp only [Option.some.injEq, Prod.mk.injEq] at h
        obtain ⟨rfl, rfl⟩ := h
        obtain ⟨e1, e2⟩ := flat_takeH n t m z ht
        refine ⟨?_, by rw [List.length_cons, e2]⟩
        rw [hash_unhash hu, e1, List.flatMap_cons, List.append_assoc]
theorem unhashes_hashes (l : List Hash) (r : Bytes) (h : l.length ≤ 64) : unhashesB (hashesB l ++ r) = some (l, r) := by
  unfold unhashesB hashesB
  rw [if_neg (by omega), List.append_assoc, read_num _ _ (by omega)]
  show (if 64 < l.length then none else takeH l.length _) = _
  rw [if_neg (by omega), takeH_flat]
theorem hashes_unhashes {s r : Bytes} {l : List Hash} (h : unhashesB s = some (l, r)) : s = hashesB l ++ r ∧ l.length ≤ 64 := by
  unfold unhashesB at h
  cases hr : readB s with
  | none => rw [hr] at h; cases h
  | some p =>
    obtain ⟨n, t⟩ := p
    rw [hr] at h
    simp only at h
    by_cases hn : 64 < n
    · rw [if_pos hn] at h; cases h
    · rw [if_neg hn] at h
      obtain ⟨e1, e2⟩ := flat_takeH _ _ _ _ h
      unfold hashesB
      rw [if_neg (by omega), List.append_assoc, ← e1, e2]
      exact ⟨(num_read hr).1, by omega⟩
theorem flatHb_length (l : List Hash) : (l.flatMap hb).length = 32 * l.length := by
  induction l with
  | nil => rfl
  | cons h l ih => rw [List.flatMap_cons, List.length_append, hb_length, ih, List.length_cons]; omega
theorem hashesB_length (l : List Hash) (h : l.length ≤ 64) : (hashesB l).length ≤ 10 + 32 * l.length := by
  unfold hashesB
  rw [if_neg (by omega), List.length_append, flatHb_length]
  have := numB_length (n := l.length) (by omega)
  omega
attribute [irreducible] numB readP readB cutB unhashB hashesB takeH unhashesB valB toH textB
end Go.Proofs.YtahdekllphehkaaDoor
