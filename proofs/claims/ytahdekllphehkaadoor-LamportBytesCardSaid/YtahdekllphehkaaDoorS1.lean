/- Paths of a tree as plain Lean functions: what climbing comes to is what the document's recursion comes to; no statement of the seat is proved here. -/
import Derived.Test.YtahdekllphehkaaDoorA8
set_option linter.unusedVariables false
set_option linter.unusedSimpArgs false
namespace Go.Proofs.YtahdekllphehkaaDoor
open Go.WL Go.Spec

/-- The document's path. -/
def pathL (l : List Hash) (i : Nat) : List Hash :=
  if h : l.length < 2 then []
  else if i < sp l.length then pathL (l.take (sp l.length)) i ++ [rootL (l.drop (sp l.length))]
  else pathL (l.drop (sp l.length)) (i - sp l.length) ++ [rootL (l.take (sp l.length))]
termination_by l.length
decreasing_by
  · have := sp_lt (n := l.length) (by omega); simp; omega
  · have := sp_pos (n := l.length) (by omega); simp; omega
theorem pathL_small {l : List Hash} (i : Nat) (h : l.length < 2) : pathL l i = [] := by rw [pathL, dif_pos h]
theorem pathL_left {l : List Hash} {i : Nat} (h : 2 ≤ l.length) (hi : i < sp l.length) : pathL l i = pathL (l.take (sp l.length)) i ++ [rootL (l.drop (sp l.length))] := by
  rw [pathL, dif_neg (by omega), if_pos hi]
theorem pathL_right {l : List Hash} {i : Nat} (h : 2 ≤ l.length) (hi : ¬ i < sp l.length) : pathL l i = pathL (l.drop (sp l.length)) (i - sp l.length) ++ [rootL (l.take (sp l.length))] := by
  rw [pathL, dif_neg (by omega), if_neg hi]

/-- What a leaf and a path come to by the document's recursion; the path from its end. -/
def comeR (leaf : Hash) : Nat → Nat → List Hash → Option Hash
  | _, n, [] => if n = 1 then some leaf else none
  | i, n, x :: r => if n = 1 then none else if i < sp n then (comeR leaf i (sp n) r).map (fun h => node h x) else (comeR leaf (i - sp n) (n - sp n) r).map (fun h => node x h)

/-- Shifted while the number is even. -/
def strip (i last : Nat) : Nat × Nat := if h : i % 2 = 0 ∧ 0 < i then strip (i / 2) (last / 2) else (i, last)
termination_by i
theorem strip_even {i last : Nat} (h : i % 2 = 0) (h0 : 0 < i) : strip i last = strip (i / 2) (last / 2) := by rw [strip, dif_pos ⟨h, h0⟩]
theorem strip_else {i last : Nat} (h : ¬ (i % 2 = 0 ∧ 0 < i)) : strip i last = (i, last) := by rw [strip, dif_neg h]

/-- What climbing comes to. -/
def chk : Hash → Nat → Nat → List Hash → Option Hash
  | leaf, _, last, [] => if last = 0 then some leaf else none
  | leaf, i, last, h :: t =>
    if last = 0 then none
    else if i % 2 = 1 ∨ i = last then chk (node h leaf) ((strip i last).1 / 2) ((strip i last).2 / 2) t
    else chk (node leaf h) (i / 2) (last / 2) t
theorem chk_nil (leaf : Hash) (i last : Nat) : chk leaf i last [] = if last = 0 then some leaf else none := by rw [chk]
theorem chk_done (leaf h : Hash) (i : Nat) (t : List Hash) : chk leaf i 0 (h :: t) = none := by rw [chk, if_pos rfl]
theorem chk_step {leaf h : Hash} {i last : Nat} {t : List Hash} (hi : i % 2 = 1 ∨ i = last) (hl : last ≠ 0) : chk leaf i last (h :: t) = chk (node h leaf) ((strip i last).1 / 2) ((strip i last).2 / 2) t := by
  rw [chk, if_neg hl, if_pos hi]
theorem chk_odd {leaf h : Hash} {i last : Nat} {t : List Hash} (hi : i % 2 = 1) (hl : last ≠ 0) : chk leaf i last (h :: t) = chk (node h leaf) (i / 2) (last / 2) t := by
  rw [chk, if_neg hl, if_pos (.inl hi), strip_else (by omega)]
theorem chk_even {leaf h : Hash} {i last : Nat} {t : List Hash} (hi : i % 2 = 0) (hne : i ≠ last) (hl : last ≠ 0) : chk leaf i last (h :: t) = chk (node leaf h) (i / 2) (last / 2) t := by
  rw [chk, if_neg hl, if_neg (by omega)]
theorem chk_skip {leaf : Hash} {i : Nat} {p : List Hash} (hi : i % 2 = 0) (h0 : 0 < i) : chk leaf i i p = chk leaf (i / 2) (i / 2) p := by
  cases p with
  | nil => rw [chk_nil, chk_nil, if_neg (by omega), if_neg (by omega)]
  | cons h t => rw [chk_step (.inr rfl) (by omega), chk_step (.inr rfl) (by omega), strip_even hi h0]

theorem chk_left (j : Nat) : ∀ (leaf x : Hash) (i last : Nat) (p : List Hash), i < 2 ^ j → 2 ^ j ≤ last → last < 2 ^ (j + 1) → chk leaf i last (p ++ [x]) = (chk leaf i (2 ^ j - 1) p).map (fun h => node h x) := by
  induction j with
  | zero =>
    intro leaf x i last p h1 h2 h3
    have hi : i = 0 := by simp at h1; exact h1
    have hl : last = 1 := by simp at h2 h3; omega
    subst hi
    subst hl
    cases p with
    | nil => rw [List.nil_append, chk_even (by decide) (by decide) (by decide), chk_nil, chk_nil]; rfl
    | cons h t =>
      rw [List.cons_append, chk_even (by decide) (by decide) (by decide), show 2 ^ 0 - 1 = 0 from rfl, chk_done]
      cases t with
      | nil => exact chk_done ..
      | cons _ _ => exact chk_done ..
  | succ j ih =>
    intro leaf x i last p h1 h2 h3
    have hp : 2 ^ (j + 1) = 2 ^ j * 2 := Nat.pow_succ ..
    have hp2 : 2 ^ (j + 1 + 1) = 2 ^ (j + 1) * 2 := Nat.pow_succ ..
    have h0 : 0 < 2 ^ j := Nat.two_pow_pos j
    have hh : (2 ^ (j + 1) - 1) / 2 = 2 ^ j - 1 := by omega
    rcases Nat.mod_two_eq_zero_or_one i with hi | hi
    · cases p with
      | nil => rw [List.nil_append, chk_even hi (by omega) (by omega), chk_nil, chk_nil, if_neg (by omega), if_neg (by omega)]; rfl
      | cons h t => rw [List.cons_append, chk_even hi (by omega) (by omega), chk_even hi (by omega) (by omega), hh]; exact ih _ _ _ _ _ (by omega) (by omega) (by omega)
    · cases p with
      | nil => rw [List.nil_append, chk_odd hi (by omega), chk_nil, chk_nil, if_neg (by omega), if_neg (by omega)]; rfl
      | cons h t => rw [List.cons_append, chk_odd hi (by omega), chk_odd hi (by omega), hh]; exact ih _ _ _ _ _ (by omega) (by omega) (by omega)

theorem chk_right (j : Nat) : ∀ (leaf x : Hash) (i last : Nat) (p : List Hash), i ≤ last → last < 2 ^ j → chk leaf (2 ^ j + i) (2 ^ j + last) (p ++ [x]) = (chk leaf i last p).map (fun h => node x h) := by
  induction j with
  | zero =>
    intro leaf x i last p h1 h2
    have hl : last = 0 := by simp at h2; exact h2
    subst hl
    have hi : i = 0 := by omega
    subst hi
    cases p with
    | nil => rw [List.nil_append, chk_odd (by decide) (by decide), chk_nil, chk_nil]; rfl
    | cons h t =>
      rw [List.cons_append, chk_odd (by decide) (by decide), chk_done]
      cases t with
      | nil => exact chk_done ..
      | cons _ _ => exact chk_done ..
  | succ j ih =>
    intro leaf x i last p h1 h2
    have hp : 2 ^ (j + 1) = 2 ^ j * 2 := Nat.pow_succ ..
    have h0 : 0 < 2 ^ j := Nat.two_pow_pos j
    have ei : (2 ^ (j + 1) + i) / 2 = 2 ^ j + i / 2 := by omega
    have el : (2 ^ (j + 1) + last) / 2 = 2 ^ j + last / 2 := by omega
    rcases Nat.mod_two_eq_zero_or_one i with hi | hi
    · by_cases he : i = last
      · subst he
        rw [chk_skip (by omega) (by omega), ei, ih _ _ _ _ _ (Nat.le_refl _) (by omega)]
        rcases Nat.eq_zero_or_pos i with hz | hz
        · subst hz; rfl
        · rw [chk_skip hi hz]
      · cases p with
        | nil => rw [List.nil_append, chk_even (by omega) (by omega) (by omega), chk_nil, chk_nil, if_neg (by omega), if_neg (by omega)]; rfl
        | cons h t => rw [List.cons_append, chk_even (by omega) (by omega) (by omega), chk_even hi he (by omega), ei, el]; exact ih _ _ _ _ _ (by omega) (by omega)
    · cases p with
      | nil => rw [List.nil_append, chk_odd (by omega) (by omega), chk_nil, chk_nil, if_neg (by omega), if_neg (by omega)]; rfl
      | cons h t => rw [List.cons_append, chk_odd (by omega) (by omega), chk_odd hi (by omega), ei, el]; exact ih _ _ _ _ _ (by omega) (by omega)

theorem sp_pow {n : Nat} (h : 2 ≤ n) : ∃ j, sp n = 2 ^ j ∧ 2 ^ j ≤ n - 1 ∧ n - 1 < 2 ^ (j + 1) := by
  have h1 := sp_lt h
  have h2 := sp_ge h
  have : ∃ j, sp n = 2 ^ j := ⟨(n - 1).log2, by unfold sp; rw [if_neg (by omega)]⟩
  obtain ⟨j, hj⟩ := this
  have hp : 2 ^ (j + 1) = 2 ^ j * 2 := Nat.pow_succ ..
  have h0 : 0 < 2 ^ j := Nat.two_pow_pos j
  exact ⟨j, hj, by omega, by omega⟩

theorem chk_come (n : Nat) : ∀ (leaf : Hash) (i : Nat) (p : List Hash), 1 ≤ n → i < n → chk leaf i (n - 1) p.reverse = comeR leaf i n p := by
  induction n using Nat.strongRecOn with
  | _ n ih =>
    intro leaf i p hn hi
    rcases Nat.lt_or_ge n 2 with h | h
    · have hn1 : n = 1 := by omega
      subst hn1
      cases p with
      | nil => rw [List.reverse_nil, chk_nil, comeR]; rfl
      | cons x r =>
        rw [comeR, if_pos rfl, List.reverse_cons]
        cases r.reverse with
        | nil => exact chk_done ..
        | cons _ _ => exact chk_done ..
    · obtain ⟨j, hj, h1, h2⟩ := sp_pow h
      have hlt := sp_lt h
      have h0 : 0 < 2 ^ j := Nat.two_pow_pos j
      have hp : 2 ^ (j + 1) = 2 ^ j * 2 := Nat.pow_succ ..
      cases p with
      | nil => rw [List.reverse_nil, chk_nil, comeR, if_neg (by omega), if_neg (by omega)]
      | cons x r =>
        rw [comeR, if_neg (by omega), List.reverse_cons, hj]
        by_cases hl : i < 2 ^ j
        · rw [if_pos hl, chk_left j _ _ _ _ _ hl h1 h2, ih (2 ^ j) (by omega) _ _ _ (by omega) hl]
        · rw [if_neg hl, ← ih (n - 2 ^ j) (by omega) _ _ _ (by omega) (by omega), ← chk_right j _ _ _ _ _ (by omega) (by omega), show 2 ^ j + (i - 2 ^ j) = i by omega, show 2 ^ j + (n - 2 ^ j - 1) = n - 1 by omega]

/-- A path's length. -/
def depth (i n : Nat) : Nat := if h : n < 2 then 0 else if i < sp n then depth i (sp n) + 1 else depth (i - sp n) (n - sp n) + 1
termination_by n
decreasing_by
  · exact sp_lt (by omega)
  · have := sp_pos (n := n) (by omega); omega
theorem depth_small {i n : Nat} (h : n < 2) : depth i n = 0 := by rw [depth, dif_pos h]
theorem depth_left {i n : Nat} (h : 2 ≤ n) (hi : i < sp n) : depth i n = depth i (sp n) + 1 := by rw [depth, dif_neg (by omega), if_pos hi]
theorem depth_right {i n : Nat} (h : 2 ≤ n) (hi : ¬ i < sp n) : depth i n = depth (i - sp n) (n - sp n) + 1 := by rw [depth, dif_neg (by omega), if_neg hi]
theorem pathL_length (m : Nat) : ∀ (l : List Hash) (i : Nat), l.length ≤ m → (pathL l i).length = depth i l.length := by
  induction m with
  | zero => intro l i h; rw [pathL_small _ (by omega), depth_small (by omega)]; rfl
  | succ m ih =>
    intro l i h
    rcases Nat.lt_or_ge l.length 2 with h2 | h2
    · rw [pathL_small _ h2, depth_small h2]; rfl
    · have h3 := sp_lt h2
      have h4 := sp_pos h2
      by_cases hi : i < sp l.length
      · rw [pathL_left h2 hi, depth_left h2 hi, List.length_append, ih _ _ (by simp; omega), List.length_take, Nat.min_eq_left (by omega)]; rfl
      · rw [pathL_right h2 hi, depth_right h2 hi, List.length_append, ih _ _ (by simp; omega), List.length_drop]; rfl
theorem comeR_length (leaf : Hash) (p : List Hash) : ∀ (i n : Nat), 1 ≤ n → (comeR leaf i n p).isSome = true → p.length = depth i n := by
  induction p with
  | nil =>
    intro i n hn h
    rw [comeR] at h
    by_cases h1 : n = 1
    · rw [depth_small (by omega)]; rfl
    · rw [if_neg h1] at h; cases h
  | cons x r ih =>
    intro i n hn h
    rw [comeR] at h
    by_cases h1 : n = 1
    · rw [if_pos h1] at h; cases h
    · rw [if_neg h1] at h
      have h2 := sp_lt (n := n) (by omega)
      have h3 := sp_pos (n := n) (by omega)
      by_cases hi : i < sp n
      · rw [if_pos hi, Option.isSome_map] at h
        rw [depth_left (by omega) hi, ← ih _ _ (by omega) h]; rfl
      · rw [if_neg hi, Option.isSome_map] at h
        rw [depth_right (by omega) hi, ← ih _ _ (by omega) h]; rfl
/-- Each leaf's path comes to the root. -/
theorem come_path (m : Nat) : ∀ (l : List Hash) (i : Nat), l.length ≤ m → i < l.length → comeR (l.getD i zeroHash) i l.length (pathL l i).reverse = some (rootL l) := by
  induction m with
  | zero => intro l i h hi; omega
  | succ m ih =>
    intro l i h hi
    rcases Nat.lt_or_ge l.length 2 with h2 | h2
    · have h1 : l.length = 1 := by omega
      have hi0 : i = 0 := by omega
      subst hi0
      rw [pathL_small _ h2, List.reverse_nil, comeR, if_pos h1]
      match l, h1 with
      | [x], _ => rw [rootL_one]; rfl
    · have h3 := sp_lt h2
      have h4 := sp_pos h2
      rw [rootL_more l h2]
      by_cases hs : i < sp l.length
      · rw [pathL_left h2 hs, List.reverse_append, List.reverse_singleton, List.singleton_append, comeR, if_neg (by omega), if_pos hs]
        have := ih (l.take (sp l.length)) i (by simp; omega) (by simp; omega)
        rw [List.length_take, Nat.min_eq_left (by omega)] at this
        rw [show l.getD i zeroHash = (l.take (sp l.length)).getD i zeroHash by simp [List.getD_eq_getElem?_getD, List.getElem?_take_of_lt hs], this]
        rfl
      · rw [pathL_right h2 hs, List.reverse_append, List.reverse_singleton, List.singleton_append, comeR, if_neg (by omega), if_neg hs]
        have := ih (l.drop (sp l.length)) (i - sp l.length) (by simp; omega) (by simp; omega)
        rw [List.length_drop] at this
        rw [show l.getD i zeroHash = (l.drop (sp l.length)).getD (i - sp l.length) zeroHash by simp [List.getD_eq_getElem?_getD, List.getElem?_drop, show sp l.length + (i - sp l.length) = i by omega], this]
        rfl
theorem depth_le (j : Nat) : ∀ (i n : Nat), n ≤ 2 ^ j → depth i n ≤ j := by
  induction j with
  | zero => intro i n h; rw [depth_small (by simp at h; omega)]; exact Nat.le_refl _
  | succ j ih =>
    intro i n h
    rcases Nat.lt_or_ge n 2 with h2 | h2
    · rw [depth_small h2]; omega
    · obtain ⟨q, hq, h3, h4⟩ := sp_pow h2
      have hp : 2 ^ (q + 1) = 2 ^ q * 2 := Nat.pow_succ ..
      have hqj : q ≤ j := by
        have : 2 ^ q < 2 ^ (j + 1) := by omega
        have := (Nat.pow_lt_pow_iff_right (a := 2) (by decide)).1 this
        omega
      have hle : 2 ^ q ≤ 2 ^ j := Nat.pow_le_pow_right (by decide) hqj
      by_cases hs : i < sp n
      · rw [depth_left h2 hs]; have := ih i (sp n) (by omega); omega
      · rw [depth_right h2 hs]; have := ih (i - sp n) (n - sp n) (by omega); omega
attribute [irreducible] comeR chk
end Go.Proofs.YtahdekllphehkaaDoor
