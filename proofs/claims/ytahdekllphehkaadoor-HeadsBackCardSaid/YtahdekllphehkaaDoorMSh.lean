/- Plain laws: paths, proofs, bytes, keys, heads, evidence; no statement of the seat is proved here. -/
import Derived.Test.YtahdekllphehkaaDoorMAh
set_option linter.unusedVariables false
set_option linter.unusedSimpArgs false
namespace Go.Proofs.YtahdekllphehkaaDoor
open Go.WL Go.Spec
/-- What a leaf and a path come to by the document's recursion; the path from its end. -/
def comeR (leaf : Hash) : Nat → Nat → List Hash → Option Hash
  | _, n, [] => if n = 1 then some leaf else none
  | i, n, x :: r => if n = 1 then none else if i < sp n then (comeR leaf i (sp n) r).map (fun h => node h x) else (comeR leaf (i - sp n) (n - sp n) r).map (fun h => node x h)
/-- Shifted while the number is even. -/
def strip (i last : Nat) : Nat × Nat := if h : i % 2 = 0 ∧ 0 < i then strip (i / 2) (last / 2) else (i, last)
termination_by i
theorem strip_even {i last : Nat} (h : i % 2 = 0) (h0 : 0 < i) : strip i last = strip (i / 2) (last / 2) := by rw [strip, dif_pos ⟨h, h0⟩]
theorem strip_else {i last : Nat} (h : ¬ (i % 2 = 0 ∧ 0 < i)) : strip i last = (i, last) := by rw [strip, dif_neg h]
/-- What climbing comes to. -/
def chk : Hash → Nat → Nat → List Hash → Option Hash
  | leaf, _, last, [] => if last = 0 then some leaf else none
  | leaf, i, last, h :: t =>
    if last = 0 then none
    else if i % 2 = 1 ∨ i = last then chk (node h leaf) ((strip i last).1 / 2) ((strip i last).2 / 2) t
    else chk (node leaf h) (i / 2) (last / 2) t
theorem chk_nil (leaf : Hash) (i last : Nat) : chk leaf i last [] = if last = 0 then some leaf else none := by rw [chk]
theorem chk_done (leaf h : Hash) (i : Nat) (t : List Hash) : chk leaf i 0 (h :: t) = none := by rw [chk, if_pos rfl]
theorem chk_step {leaf h : Hash} {i last : Nat} {t : List Hash} (hi : i % 2 = 1 ∨ i = last) (hl : last ≠ 0) : chk leaf i last (h :: t) = chk (node h leaf) ((strip i last).1 / 2) ((strip i last).2 / 2) t := by
  rw [chk, if_neg hl, if_pos hi]
theorem chk_odd {leaf h : Hash} {i last : Nat} {t : List Hash} (hi : i % 2 = 1) (hl : last ≠ 0) : chk leaf i last (h :: t) = chk (node h leaf) (i / 2) (last / 2) t := by
  rw [chk, if_neg hl, if_pos (.inl hi), strip_else (by omega)]
theorem chk_even {leaf h : Hash} {i last : Nat} {t : List Hash} (hi : i % 2 = 0) (hne : i ≠ last) (hl : last ≠ 0) : chk leaf i last (h :: t) = chk (node leaf h) (i / 2) (last / 2) t := by
  rw [chk, if_neg hl, if_neg (by omega)]
theorem chk_skip {leaf : Hash} {i : Nat} {p : List Hash} (hi : i % 2 = 0) (h0 : 0 < i) : chk leaf i i p = chk leaf (i / 2) (i / 2) p := by
  cases p with
  | nil => rw [chk_nil, chk_nil, if_neg (by omega), if_neg (by omega)]
  | cons h t => rw [chk_step (.inr rfl) (by omega), chk_step (.inr rfl) (by omega), strip_even hi h0]
theorem chk_left (j : Nat) : ∀ (leaf x : Hash) (i last : Nat) (p : List Hash), i < 2 ^ j → 2 ^ j ≤ last → last < 2 ^ (j + 1) → chk leaf i last (p ++ [x]) = (chk leaf i (2 ^ j - 1) p).map (fun h => node h x) := by
  induction j with
  | zero =>
    intro leaf x i last p h1 h2 h3
    have hi : i = 0 := by simp at h1; exact h1
    have hl : last = 1 := by simp at h2 h3; omega
    subst hi
    subst hl
    cases p with
    | nil => rw [List.nil_append, chk_even (by decide) (by decide) (by decide), chk_nil, chk_nil]; rfl
    | cons h t =>
      rw [List.cons_append, chk_even (by decide) (by decide) (by decide), show 2 ^ 0 - 1 = 0 from rfl, chk_done]
      cases t with
      | nil => exact chk_done ..
      | cons _ _ => exact chk_done ..
  | succ j ih =>
    intro leaf x i last p h1 h2 h3
    have hp : 2 ^ (j + 1) = 2 ^ j * 2 := Nat.pow_succ ..
    have hp2 : 2 ^ (j + 1 + 1) = 2 ^ (j + 1) * 2 := Nat.pow_succ ..
    have h0 : 0 < 2 ^ j := Nat.two_pow_pos j
    have hh : (2 ^ (j + 1) - 1) / 2 = 2 ^ j - 1 := by omega
    rcases Nat.mod_two_eq_zero_or_one i with hi | hi
    · cases p with
      | nil => rw [List.nil_append, chk_even hi (by omega) (by omega), chk_nil, chk_nil, if_neg (by omega), if_neg (by omega)]; rfl
      | cons h t => rw [List.cons_append, chk_even hi (by omega) (by omega), chk_even hi (by omega) (by omega), hh]; exact ih _ _ _ _ _ (by omega) (by omega) (by omega)
    · cases p with
      | nil => rw [List.nil_append, chk_odd hi (by omega), chk_nil, chk_nil, if_neg (by omega), if_neg (by omega)]; rfl
      | cons h t => rw [List.cons_append, chk_odd hi (by omega), chk_odd hi (by omega), hh]; exact ih _ _ _ _ _ (by omega) (by omega) (by omega)
theorem chk_right (j : Nat) : ∀ (leaf x : Hash) (i last : Nat) (p : List Hash), i ≤ last → last < 2 ^ j → chk leaf (2 ^ j + i) (2 ^ j + last) (p ++ [x]) = (chk leaf i last p).map (fun h => node x h) := by
  induction j with
  | zero =>
    intro leaf x i last p h1 h2
    have hl : last = 0 := by simp at h2; exact h2
    subst hl
    have hi : i = 0 := by omega
    subst hi
    cases p with
    | nil => rw [List.nil_append, chk_odd (by decide) (by decide), chk_nil, chk_nil]; rfl
    | cons h t =>
      rw [List.cons_append, chk_odd (by decide) (by decide), chk_done]
      cases t with
      | nil => exact chk_done ..
      | cons _ _ => exact chk_done ..
  | succ j ih =>
    intro leaf x i last p h1 h2
    have hp : 2 ^ (j + 1) = 2 ^ j * 2 := Nat.pow_succ ..
    have h0 : 0 < 2 ^ j := Nat.two_pow_pos j
    have ei : (2 ^ (j + 1) + i) / 2 = 2 ^ j + i / 2 := by omega
    have el : (2 ^ (j + 1) + last) / 2 = 2 ^ j + last / 2 := by omega
    rcases Nat.mod_two_eq_zero_or_one i with hi | hi
    · by_cases he : i = last
      · subst he
        rw [chk_skip (by omega) (by omega), ei, ih _ _ _ _ _ (Nat.le_refl _) (by omega)]
        rcases Nat.eq_zero_or_pos i with hz | hz
        · subst hz; rfl
        · rw [chk_skip hi hz]
      · cases p with
        | nil => rw [List.nil_append, chk_even (by omega) (by omega) (by omega), chk_nil, chk_nil, if_neg (by omega), if_neg (by omega)]; rfl
        | cons h t => rw [List.cons_append, chk_even (by omega) (by omega) (by omega), chk_even hi he (by omega), ei, el]; exact ih _ _ _ _ _ (by omega) (by omega)
    · cases p with
      | nil => rw [List.nil_append, chk_odd (by omega) (by omega), chk_nil, chk_nil, if_neg (by omega), if_neg (by omega)]; rfl
      | cons h t => rw [List.cons_append, chk_odd (by omega) (by omega), chk_odd hi (by omega), ei, el]; exact ih _ _ _ _ _ (by omega) (by omega)
theorem sp_pow {n : Nat} (h : 2 ≤ n) : ∃ j, sp n = 2 ^ j ∧ 2 ^ j ≤ n - 1 ∧ n - 1 < 2 ^ (j + 1) := by
  have h1 := sp_lt h
  have h2 := sp_ge h
  have : ∃ j, sp n = 2 ^ j := ⟨(n - 1).log2, by unfold sp; rw [if_neg (by omega)]⟩
  obtain ⟨j, hj⟩ := this
  have hp : 2 ^ (j + 1) = 2 ^ j * 2 := Nat.pow_succ ..
  have h0 : 0 < 2 ^ j := Nat.two_pow_pos j
  exact ⟨j, hj, by omega, by omega⟩
theorem chk_come (n : Nat) : ∀ (leaf : Hash) (i : Nat) (p : List Hash), 1 ≤ n → i < n → chk leaf i (n - 1) p.reverse = comeR leaf i n p := by
  induction n using Nat.strongRecOn with
  | _ n ih =>
    intro leaf i p hn hi
    rcases Nat.lt_or_ge n 2 with h | h
    · have hn1 : n = 1 := by omega
      subst hn1
      cases p with
      | nil => rw [List.reverse_nil, chk_nil, comeR]; rfl
      | cons x r =>
        rw [comeR, if_pos rfl, List.reverse_cons]
        cases r.reverse with
        | nil => exact chk_done ..
        | cons _ _ => exact chk_done ..
    · obtain ⟨j, hj, h1, h2⟩ := sp_pow h
      have hlt := sp_lt h
      have h0 : 0 < 2 ^ j := Nat.two_pow_pos j
      have hp : 2 ^ (j + 1) = 2 ^ j * 2 := Nat.pow_succ ..
      cases p with
      | nil => rw [List.reverse_nil, chk_nil, comeR, if_neg (by omega), if_neg (by omega)]
      | cons x r =>
        rw [comeR, if_neg (by omega), List.reverse_cons, hj]
        by_cases hl : i < 2 ^ j
        · rw [if_pos hl, chk_left j _ _ _ _ _ hl h1 h2, ih (2 ^ j) (by omega) _ _ _ (by omega) hl]
        · rw [if_neg hl, ← ih (n - 2 ^ j) (by omega) _ _ _ (by omega) (by omega), ← chk_right j _ _ _ _ _ (by omega) (by omega), show 2 ^ j + (i - 2 ^ j) = i by omega, show 2 ^ j + (n - 2 ^ j - 1) = n - 1 by omega]
/-- A path's length. -/
def depth (i n : Nat) : Nat := if h : n < 2 then 0 else if i < sp n then depth i (sp n) + 1 else depth (i - sp n) (n - sp n) + 1
termination_by n
decreasing_by
  · exact sp_lt (by omega)
  · have := sp_pos (n := n) (by omega); omega
attribute [irreducible] comeR chk
end Go.Proofs.YtahdekllphehkaaDoor
namespace Go.Proofs.YtahdekllphehkaaDoor
open Go.WL Go.Spec
/-- Up to where the older tree's last full one hangs. -/
def ones (i last : Nat) : Nat × Nat := if h : i % 2 = 1 then ones (i / 2) (last / 2) else (i, last)
termination_by i
end Go.Proofs.YtahdekllphehkaaDoor
namespace Go.Proofs.YtahdekllphehkaaDoor
open Go.WL Go.Spec
def aheadB (n : Nat) : Bytes := if h : n < 128 then [UInt8.ofNat (n + 128)] else aheadB (n / 128) ++ [UInt8.ofNat (n % 128 + 128)]
termination_by n
theorem aheadB_small {n : Nat} (h : n < 128) : aheadB n = [UInt8.ofNat (n + 128)] := by rw [aheadB, dif_pos h]
theorem aheadB_more {n : Nat} (h : ¬ n < 128) : aheadB n = aheadB (n / 128) ++ [UInt8.ofNat (n % 128 + 128)] := by rw [aheadB, dif_neg h]
/-- A number in as few bytes as need be. -/
def numB (n : Nat) : Bytes := if n < 128 then [UInt8.ofNat n] else aheadB (n / 128) ++ [UInt8.ofNat (n % 128)]
theorem numB_small {n : Nat} (h : n < 128) : numB n = [UInt8.ofNat n] := by rw [numB, if_pos h]
theorem numB_more {n : Nat} (h : ¬ n < 128) : numB n = aheadB (n / 128) ++ [UInt8.ofNat (n % 128)] := by rw [numB, if_neg h]
/-- What stands ahead, some bytes of it being read. -/
def readP : Nat → Bytes → Option (Nat × Bytes)
  | _, [] => none
  | n, c :: t => if n = 0 ∧ c.toNat = 128 ∨ 144115188075855872 ≤ n then none else if c.toNat < 128 then some (n * 128 + c.toNat % 128, t) else readP (n * 128 + c.toNat % 128) t
theorem readP_nil (n : Nat) : readP n [] = none := by rw [readP]
theorem readP_none {n : Nat} {c : UInt8} {t : Bytes} (h : n = 0 ∧ c.toNat = 128 ∨ 144115188075855872 ≤ n) : readP n (c :: t) = none := by rw [readP, if_pos h]
theorem readP_last {n : Nat} {c : UInt8} {t : Bytes} (h : ¬ (n = 0 ∧ c.toNat = 128 ∨ 144115188075855872 ≤ n)) (hc : c.toNat < 128) : readP n (c :: t) = some (n * 128 + c.toNat % 128, t) := by rw [readP, if_neg h, if_pos hc]
theorem readP_more {n : Nat} {c : UInt8} {t : Bytes} (h : ¬ (n = 0 ∧ c.toNat = 128 ∨ 144115188075855872 ≤ n)) (hc : ¬ c.toNat < 128) : readP n (c :: t) = readP (n * 128 + c.toNat % 128) t := by rw [readP, if_neg h, if_neg hc]
def readB (s : Bytes) : Option (Nat × Bytes) := readP 0 s
theorem u8_nat {k : Nat} (h : k < 256) : (UInt8.ofNat k).toNat = k := by simp; omega
theorem u8_of_nat (c : UInt8) : UInt8.ofNat c.toNat = c := by simp
theorem readP_ahead (m : Nat) : ∀ (t : Bytes), 0 < m → m < 144115188075855872 → readP 0 (aheadB m ++ t) = readP m t := by
  induction m using Nat.strongRecOn with
  | _ m ih =>
    intro t h0 h1
    rcases Nat.lt_or_ge m 128 with h | h
    · rw [aheadB_small h, List.singleton_append, readP_more (by rw [u8_nat (by omega)]; omega) (by rw [u8_nat (by omega)]; omega), u8_nat (by omega)]
      congr 1; omega
    · rw [aheadB_more (by omega), List.append_assoc, ih (m / 128) (by omega) _ (by omega) (by omega), List.singleton_append, readP_more (by rw [u8_nat (by omega)]; omega) (by rw [u8_nat (by omega)]; omega), u8_nat (by omega)]
      congr 1; omega
theorem read_num (n : Nat) (r : Bytes) (h : n < 18446744073709551616) : readB (numB n ++ r) = some (n, r) := by
  unfold readB
  rcases Nat.lt_or_ge n 128 with h1 | h1
  · rw [numB_small h1, List.singleton_append, readP_last (by rw [u8_nat (by omega)]; omega) (by rw [u8_nat (by omega)]; omega), u8_nat (by omega)]
    congr 2; omega
  · rw [numB_more (by omega), List.append_assoc, readP_ahead _ _ (by omega) (by omega), List.singleton_append, readP_last (by rw [u8_nat (by omega)]; omega) (by rw [u8_nat (by omega)]; omega), u8_nat (by omega)]
    congr 2; omega
theorem readP_num (s : Bytes) : ∀ (m n : Nat) (r : Bytes), 0 < m → readP m s = some (n, r) → aheadB m ++ s = numB n ++ r ∧ n < 18446744073709551616 := by
  induction s with
  | nil => intro m n r _ h; rw [readP_nil] at h; cases h
  | cons c t ih =>
    intro m n r hm h
    have hc := c.toNat_lt
    by_cases h1 : m = 0 ∧ c.toNat = 128 ∨ 144115188075855872 ≤ m
    · rw [readP_none h1] at h; cases h
    · by_cases h2 : c.toNat < 128
      · rw [readP_last h1 h2] at h
        simp only [Option.some.injEq, Prod.mk.injEq] at h
        obtain ⟨rfl, rfl⟩ := h
        rw [numB_more (by omega), show (m * 128 + c.toNat % 128) / 128 = m by omega, show (m * 128 + c.toNat % 128) % 128 = c.toNat by omega, u8_of_nat, List.append_assoc]
        exact ⟨rfl, by omega⟩
      · rw [readP_more h1 h2] at h
        have := ih _ _ _ (by omega) h
        rw [aheadB_more (by omega), show (m * 128 + c.toNat % 128) / 128 = m by omega, show (m * 128 + c.toNat % 128) % 128 + 128 = c.toNat by omega, u8_of_nat, List.append_assoc] at this
        exact this
theorem num_read {s : Bytes} {n : Nat} {r : Bytes} (h : readB s = some (n, r)) : s = numB n ++ r ∧ n < 18446744073709551616 := by
  unfold readB at h
  cases s with
  | nil => rw [readP_nil] at h; cases h
  | cons c t =>
    have hc := c.toNat_lt
    by_cases h1 : 0 = 0 ∧ c.toNat = 128 ∨ 144115188075855872 ≤ 0
    · rw [readP_none h1] at h; cases h
    · by_cases h2 : c.toNat < 128
      · rw [readP_last h1 h2] at h
        simp only [Option.some.injEq, Prod.mk.injEq] at h
        obtain ⟨rfl, rfl⟩ := h
        rw [numB_small (by omega), show 0 * 128 + c.toNat % 128 = c.toNat by omega, u8_of_nat]
        exact ⟨rfl, by omega⟩
      · rw [readP_more h1 h2] at h
        have := readP_num t _ _ _ (by omega) h
        rw [aheadB_small (by omega), show 0 * 128 + c.toNat % 128 + 128 = c.toNat by omega, u8_of_nat] at this
        exact this
theorem aheadB_length (j : Nat) : ∀ m, m < 128 ^ (j + 1) → 1 ≤ (aheadB m).length ∧ (aheadB m).length ≤ j + 1 := by
  induction j with
  | zero => intro m h; rw [aheadB_small (by omega)]; simp
  | succ j ih =>
    intro m h
    rcases Nat.lt_or_ge m 128 with h1 | h1
    · rw [aheadB_small h1]; simp
    · have hp : 128 ^ (j + 1 + 1) = 128 ^ (j + 1) * 128 := Nat.pow_succ ..
      have := ih (m / 128) (by omega)
      rw [aheadB_more (by omega), List.length_append]; simp; omega
theorem numB_length {n : Nat} (h : n < 18446744073709551616) : 1 ≤ (numB n).length ∧ (numB n).length ≤ 10 := by
  rcases Nat.lt_or_ge n 128 with h1 | h1
  · rw [numB_small h1]; simp
  · have := aheadB_length 8 (n / 128) (by have : (128 : Nat) ^ (8 + 1) = 9223372036854775808 := by decide
                                          omega)
    rw [numB_more (by omega), List.length_append]; simp; omega
theorem aheadB_hi (m : Nat) : ∀ c ∈ aheadB m, 128 ≤ c.toNat := by
  induction m using Nat.strongRecOn with
  | _ m ih =>
    intro c hc
    rcases Nat.lt_or_ge m 128 with h | h
    · rw [aheadB_small h, List.mem_singleton] at hc
      rw [hc, u8_nat (by omega)]; omega
    · rw [aheadB_more (by omega), List.mem_append, List.mem_singleton] at hc
      rcases hc with hc | hc
      · exact ih _ (by omega) c hc
      · rw [hc, u8_nat (by omega)]; omega
/-- A number's digits. -/
def valB (l : Bytes) : Nat := l.foldl (fun n c => n * 128 + c.toNat % 128) 0
theorem valB_snoc (l : Bytes) (c : UInt8) : valB (l ++ [c]) = valB l * 128 + c.toNat % 128 := by unfold valB; rw [List.foldl_append]; rfl
theorem valB_ahead (m : Nat) : valB (aheadB m) = m := by
  induction m using Nat.strongRecOn with
  | _ m ih =>
    rcases Nat.lt_or_ge m 128 with h | h
    · rw [aheadB_small h, ← List.nil_append [_], valB_snoc, u8_nat (by omega)]; show 0 * 128 + _ = _; omega
    · rw [aheadB_more (by omega), valB_snoc, ih _ (by omega), u8_nat (by omega)]; omega
theorem valB_num (n : Nat) : valB (numB n) = n := by
  rcases Nat.lt_or_ge n 128 with h | h
  · rw [numB_small h, ← List.nil_append [_], valB_snoc, u8_nat (by omega)]; show 0 * 128 + _ = _; omega
  · rw [numB_more (by omega), valB_snoc, valB_ahead, u8_nat (by omega)]; omega
def textB (s : Bytes) : Bytes := numB s.length ++ s
def cutB (s : Bytes) : Option (Bytes × Bytes) := match readB s with
  | none => none
  | some (n, r) => if r.length < n then none else some (r.take n, r.drop n)
theorem cut_text (s r : Bytes) (h : s.length < 18446744073709551616) : cutB (textB s ++ r) = some (s, r) := by
  unfold cutB textB
  rw [List.append_assoc, read_num _ _ h]
  show (if (s ++ r).length < s.length then none else some ((s ++ r).take s.length, (s ++ r).drop s.length)) = _
  rw [if_neg (by simp), List.take_left' rfl, List.drop_left' rfl]
theorem text_cut {s a r : Bytes} (h : cutB s = some (a, r)) : s = textB a ++ r ∧ a.length < 18446744073709551616 := by
  unfold cutB at h
  cases hr : readB s with
  | none => rw [hr] at h; cases h
  | some p =>
    obtain ⟨n, t⟩ := p
    rw [hr] at h
    obtain ⟨h1, h2⟩ := num_read hr
    by_cases hn : t.length < n
    · simp only [if_pos hn] at h; cases h
    · simp only [if_neg hn, Option.some.injEq, Prod.mk.injEq] at h
      obtain ⟨rfl, rfl⟩ := h
      have hl : (t.take n).length = n := by simp; omega
      unfold textB
      rw [hl, List.append_assoc, List.take_append_drop]
      exact ⟨h1, h2⟩
/-- A hash of so many bytes; zeros where there are none. -/
def toH (l : Bytes) : Hash := if h : l.length = 32 then hashOf l h else zeroHash
theorem hb_hashOf (l : Bytes) (h : l.length = 32) : hb (hashOf l h) = l := by unfold hb hashOf; simp
theorem hb_toH {l : Bytes} (h : l.length = 32) : hb (toH l) = l := by unfold toH; rw [dif_pos h, hb_hashOf]
theorem hb_inj {a b : Hash} (h : hb a = hb b) : a = b := toList_inj.1 h
theorem toH_hb (h : Hash) : toH (hb h) = h := hb_inj (hb_toH (hb_length h))
def unhashB (s : Bytes) : Option (Hash × Bytes) := if s.length < 32 then none else some (toH (s.take 32), s.drop 32)
theorem unhash_hash (h : Hash) (r : Bytes) : unhashB (hb h ++ r) = some (h, r) := by
  unfold unhashB
  rw [if_neg (by simp [hb_length]), List.take_left' (hb_length h), List.drop_left' (hb_length h), toH_hb]
theorem hash_unhash {s r : Bytes} {h : Hash} (e : unhashB s = some (h, r)) : s = hb h ++ r := by
  unfold unhashB at e
  by_cases hs : s.length < 32
  · rw [if_pos hs] at e; cases e
  · rw [if_neg hs] at e
    simp only [Option.some.injEq, Prod.mk.injEq] at e
    obtain ⟨rfl, rfl⟩ := e
    rw [hb_toH (by simp; omega), List.take_append_drop]
def hashesB (l : List Hash) : Bytes := if 64 < l.length then [] else numB l.length ++ l.flatMap hb
def takeH : Nat → Bytes → Option (List Hash × Bytes)
  | 0, s => some ([], s)
  | n + 1, s => match unhashB s with
    | none => none
    | some (h, r) => match takeH n r with
      | none => none
      | some (l, t) => some (h :: l, t)
def unhashesB (s : Bytes) : Option (List Hash × Bytes) := match readB s with
  | none => none
  | some (n, r) => if 64 < n then none else takeH n r
theorem takeH_flat (l : List Hash) (r : Bytes) : takeH l.length (l.flatMap hb ++ r) = some (l, r) := by
  induction l with
  | nil => rfl
  | cons h l ih => rw [List.length_cons, takeH, List.flatMap_cons, List.append_assoc, unhash_hash]; simp only [ih]
theorem flat_takeH : ∀ (n : Nat) (s : Bytes) (l : List Hash) (r : Bytes), takeH n s = some (l, r) → s = l.flatMap hb ++ r ∧ l.length = n
  | 0, s, l, r, h => by
    rw [takeH] at h
    simp only [Option.some.injEq, Prod.mk.injEq] at h
    obtain ⟨rfl, rfl⟩ := h
    exact ⟨rfl, rfl⟩
  | n + 1, s, l, r, h => by
    rw [takeH] at h
    cases hu : unhashB s with
    | none => rw [hu] at h; cases h
    | some p =>
      obtain ⟨x, t⟩ := p
      rw [hu] at h
      simp only at h
      cases ht : takeH n t with
      | none => rw [ht] at h; cases h
      | some q =>
        obtain ⟨m, z⟩ := q
        rw [ht] at h
        simp only [Option.some.injEq, Prod.mk.injEq] at h
        obtain ⟨rfl, rfl⟩ := h
        obtain ⟨e1, e2⟩ := flat_takeH n t m z ht
        refine ⟨?_, by rw [List.length_cons, e2]⟩
        rw [hash_unhash hu, e1, List.flatMap_cons, List.append_assoc]
theorem unhashes_hashes (l : List Hash) (r : Bytes) (h : l.length ≤ 64) : unhashesB (hashesB l ++ r) = some (l, r) := by
  unfold unhashesB hashesB
  rw [if_neg (by omega), List.append_assoc, read_num _ _ (by omega)]
  show (if 64 < l.length then none else takeH l.length _) = _
  rw [if_neg (by omega), takeH_flat]
theorem hashes_unhashes {s r : Bytes} {l : List Hash} (h : unhashesB s = some (l, r)) : s = hashesB l ++ r ∧ l.length ≤ 64 := by
  unfold unhashesB at h
  cases hr : readB s with
  | none => rw [hr] at h; cases h
  | some p =>
    obtain ⟨n, t⟩ := p
    rw [hr] at h
    simp only at h
    by_cases hn : 64 < n
    · rw [if_pos hn] at h; cases h
    · rw [if_neg hn] at h
      obtain ⟨e1, e2⟩ := flat_takeH _ _ _ _ h
      unfold hashesB
      rw [if_neg (by omega), List.append_assoc, ← e1, e2]
      exact ⟨(num_read hr).1, by omega⟩
theorem flatHb_length (l : List Hash) : (l.flatMap hb).length = 32 * l.length := by
  induction l with
  | nil => rfl
  | cons h l ih => rw [List.flatMap_cons, List.length_append, hb_length, ih, List.length_cons]; omega
theorem hashesB_length (l : List Hash) (h : l.length ≤ 64) : (hashesB l).length ≤ 10 + 32 * l.length := by
  unfold hashesB
  rw [if_neg (by omega), List.length_append, flatHb_length]
  have := numB_length (n := l.length) (by omega)
  omega
attribute [irreducible] numB readP readB cutB unhashB hashesB takeH unhashesB valB toH textB
end Go.Proofs.YtahdekllphehkaaDoor
namespace Go.Proofs.YtahdekllphehkaaDoor
open Go.WL Go.Spec
def secretN (seed : Bytes) (index k : Nat) : Hash := sha ([2] ++ textB seed ++ putB (UInt64.ofNat index) 4 ++ putB (UInt64.ofNat k) 2)
def shownL (b : Bytes) : Hash := sha ([3] ++ b)
def pubL (seed : Bytes) (index k : Nat) : Hash := shownL (hb (secretN seed index k))
def publicL (seed : Bytes) (index : Nat) : List Hash := (List.range 512).map (pubL seed index)
def keyLeaf (l : List Hash) : Hash := if l.length = 512 then sha ([4] ++ l.flatMap hb) else zeroHash
/-- A bit of bytes. -/
def bitB (s : Bytes) (i : Nat) : Nat := (s.getD (i / 8) 0).toNat / 2 ^ (7 - i % 8) % 2
theorem bitB_lt (s : Bytes) (i : Nat) : bitB s i < 2 := Nat.mod_lt _ (by decide)
def cut32 (s : Bytes) (i : Nat) : Bytes := (s.drop (32 * i)).take 32
def recK (sig d : Bytes) (k : Nat) : Hash := if k % 2 = bitB d (k / 2) then shownL (cut32 sig (k / 2)) else toH (cut32 sig (256 + k / 2))
def recL (sig d : Bytes) : List Hash := (List.range 512).map (recK sig d)
theorem recL_length (sig d : Bytes) : (recL sig d).length = 512 := by simp [recL]
attribute [irreducible] secretN shownL pubL publicL keyLeaf bitB cut32 recK recL
end Go.Proofs.YtahdekllphehkaaDoor
namespace Go.Proofs.YtahdekllphehkaaDoor
open Go.WL Go.Spec
structure Sg where
  size : Int
  root : Hash
  index : Int
  sig : Bytes
  path : List Hash
def Sg.none : Sg := ⟨0, zeroHash, 0, [], []⟩
def Sg.valid (s : Sg) : Prop := 0 ≤ s.size ∧ s.size ≤ 4096 ∧ 0 ≤ s.index ∧ s.index < 8 ∧ s.sig.length = 16384 ∧ s.path.length = 3
instance (s : Sg) : Decidable s.valid := by unfold Sg.valid; exact inferInstance
def headB (s : Sg) : Bytes := numB s.size.toNat ++ hb s.root ++ numB s.index.toNat ++ textB s.sig ++ hashesB s.path
def digestL (size : Int) (root : Hash) : Hash := sha ([5] ++ putB (UInt64.ofNat size.toNat) 8 ++ hb root)
/-- What stands there. -/
def fieldsB (t : Bytes) : Option (Nat × Hash × Nat × Bytes × List Hash × Bytes) :=
  match readB t with
  | .none => .none
  | some (n, r) => match unhashB r with
    | .none => .none
    | some (h, r) => match readB r with
      | .none => .none
      | some (i, r) => match cutB r with
        | .none => .none
        | some (s, r) => match unhashesB r with
          | .none => .none
          | some (p, r) => some (n, h, i, s, p, r)
def small (n : Nat) : Int := (min n 1073741824 : Nat)
def getS (t : Bytes) : Option Sg := match fieldsB t with
  | .none => .none
  | some (n, h, i, s, p, r) => if r = [] ∧ Sg.valid ⟨small n, h, small i, s, p⟩ then some ⟨small n, h, small i, s, p⟩ else .none
theorem small_of {n : Nat} (h : small n ≤ 4096) : small n = n := by unfold small at *; omega
theorem fields_put {n i : Nat} {h : Hash} {s : Bytes} {p : List Hash} {r : Bytes} (h1 : n < 18446744073709551616) (h2 : i < 18446744073709551616) (h3 : s.length < 18446744073709551616) (h4 : p.length ≤ 64) :
    fieldsB (numB n ++ hb h ++ numB i ++ textB s ++ hashesB p ++ r) = some (n, h, i, s, p, r) := by
  unfold fieldsB
  simp only [List.append_assoc]
  rw [read_num _ _ h1]
  simp only [unhash_hash, read_num _ _ h2, cut_text _ _ h3, unhashes_hashes _ _ h4]
theorem put_fields {t : Bytes} {n i : Nat} {h : Hash} {s : Bytes} {p : List Hash} {r : Bytes} (e : fieldsB t = some (n, h, i, s, p, r)) :
    t = numB n ++ hb h ++ numB i ++ textB s ++ hashesB p ++ r ∧ n < 18446744073709551616 ∧ i < 18446744073709551616 ∧ p.length ≤ 64 := by
  unfold fieldsB at e
  cases e1 : readB t with
  | none => rw [e1] at e; cases e
  | some x =>
    obtain ⟨n', r1⟩ := x
    rw [e1] at e
    simp only at e
    cases e2 : unhashB r1 with
    | none => rw [e2] at e; cases e
    | some x =>
      obtain ⟨h', r2⟩ := x
      rw [e2] at e
      simp only at e
      cases e3 : readB r2 with
      | none => rw [e3] at e; cases e
      | some x =>
        obtain ⟨i', r3⟩ := x
        rw [e3] at e
        simp only at e
        cases e4 : cutB r3 with
        | none => rw [e4] at e; cases e
        | some x =>
          obtain ⟨s', r4⟩ := x
          rw [e4] at e
          simp only at e
          cases e5 : unhashesB r4 with
          | none => rw [e5] at e; cases e
          | some x =>
            obtain ⟨p', r5⟩ := x
            rw [e5] at e
            simp only [Option.some.injEq, Prod.mk.injEq] at e
            obtain ⟨rfl, rfl, rfl, rfl, rfl, rfl⟩ := e
            obtain ⟨a1, b1⟩ := num_read e1
            have a2 := hash_unhash e2
            obtain ⟨a3, b3⟩ := num_read e3
            obtain ⟨a4, b4⟩ := text_cut e4
            obtain ⟨a5, b5⟩ := hashes_unhashes e5
            refine ⟨?_, b1, b3, b5⟩
            rw [a1, a2, a3, a4, a5]
            simp only [List.append_assoc]
theorem getS_iff {t : Bytes} {s : Sg} : getS t = some s ↔ s.valid ∧ t = headB s := by
  constructor
  · intro h
    unfold getS at h
    cases e : fieldsB t with
    | none => rw [e] at h; cases h
    | some x =>
      obtain ⟨n, g, i, sg, p, r⟩ := x
      rw [e] at h
      simp only at h
      by_cases hc : r = [] ∧ Sg.valid ⟨small n, g, small i, sg, p⟩
      · rw [if_pos hc] at h
        simp only [Option.some.injEq] at h
        subst h
        obtain ⟨rfl, hv⟩ := hc
        refine ⟨hv, ?_⟩
        obtain ⟨a, _, _, _⟩ := put_fields e
        obtain ⟨v1, v2, v3, v4, _, _⟩ := hv
        simp only at v1 v2 v3 v4
        have e1 := small_of v2
        have e2 : small i = i := small_of (by omega)
        rw [a]
        unfold headB
        simp only [e1, e2, Int.toNat_natCast, List.append_nil]
      · rw [if_neg hc] at h; cases h
  · rintro ⟨hv, rfl⟩
    obtain ⟨size, root, index, sig, path⟩ := s
    obtain ⟨v1, v2, v3, v4, v5, v6⟩ := id hv
    simp only at v1 v2 v3 v4 v5 v6
    have := fields_put (n := size.toNat) (i := index.toNat) (h := root) (s := sig) (p := path) (r := []) (by omega) (by omega) (by omega) (by omega)
    rw [List.append_nil] at this
    unfold getS headB
    simp only [this]
    have e1 : small size.toNat = size := by unfold small; omega
    have e2 : small index.toNat = index := by unfold small; omega
    rw [e1, e2, if_pos ⟨trivial, hv⟩]
theorem headB_length {s : Sg} (h : s.valid) : 16384 < (headB s).length ∧ (headB s).length ≤ 16600 := by
  obtain ⟨v1, v2, v3, v4, v5, v6⟩ := h
  have n1 := numB_length (n := s.size.toNat) (by omega)
  have n2 := numB_length (n := s.index.toNat) (by omega)
  have n3 := numB_length (n := s.sig.length) (by omega)
  have n4 := hashesB_length s.path (by omega)
  have e : textB s.sig = numB s.sig.length ++ s.sig := by unfold textB; rfl
  unfold headB
  rw [e]
  simp only [List.length_append, hb_length]
  omega
/-- Bytes of a head are never the beginning of others'. -/
theorem headB_pre {s s' : Sg} {r : Bytes} (h : s.valid) (h' : s'.valid) (e : headB s ++ r = headB s') : r = [] := by
  obtain ⟨v1, v2, v3, v4, v5, v6⟩ := h
  obtain ⟨w1, w2, w3, w4, w5, w6⟩ := h'
  have a := fields_put (n := s.size.toNat) (i := s.index.toNat) (h := s.root) (s := s.sig) (p := s.path) (r := r) (by omega) (by omega) (by omega) (by omega)
  have b := fields_put (n := s'.size.toNat) (i := s'.index.toNat) (h := s'.root) (s := s'.sig) (p := s'.path) (r := []) (by omega) (by omega) (by omega) (by omega)
  rw [List.append_nil] at b
  unfold headB at e
  rw [e, b] at a
  simp only [Option.some.injEq, Prod.mk.injEq] at a
  exact a.2.2.2.2.2.symm
attribute [irreducible] headB digestL fieldsB small getS
end Go.Proofs.YtahdekllphehkaaDoor
namespace Go.Proofs.YtahdekllphehkaaDoor
open Go.WL Go.Spec
/-- Is it a signature of a digest by a key? -/
def sealOK (key digest : Hash) (index : Int) (sig : Bytes) (path : List Hash) : Prop :=
  sig.length = 16384 ∧ comeR (keyLeaf (recL sig (hb digest))) index.toNat 8 path.reverse = some key
instance (key digest : Hash) (index : Int) (sig : Bytes) (path : List Hash) : Decidable (sealOK key digest index sig path) := by unfold sealOK; exact inferInstance
structure Ev where
  kind : Int
  older : Sg
  newer : Sg
  root : Hash
  proof : List Hash
def Ev.none : Ev := ⟨0, Sg.none, Sg.none, zeroHash, []⟩
/-- How a head stands to another one. -/
def ordL (a b : Sg) : Int := if a.size < b.size then 0 else if b.size < a.size then 2 else if a.root = b.root then 1 else 3
def Ev.shape (e : Ev) : Prop := e.older.valid ∧ e.newer.valid ∧ e.proof.length ≤ 64 ∧ ((e.kind = 1 ∧ ordL e.older e.newer = 3 ∧ e.root = zeroHash ∧ e.proof = []) ∨ (e.kind = 2 ∧ ordL e.older e.newer = 0 ∧ e.root ≠ e.older.root))
instance (e : Ev) : Decidable e.shape := by unfold Ev.shape; exact inferInstance
attribute [irreducible] sealOK
end Go.Proofs.YtahdekllphehkaaDoor
namespace Go.Proofs.YtahdekllphehkaaDoor
open Go.WL Go.Spec
end Go.Proofs.YtahdekllphehkaaDoor
