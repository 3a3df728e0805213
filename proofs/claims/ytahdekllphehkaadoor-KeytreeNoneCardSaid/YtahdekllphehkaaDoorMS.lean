/- Plain laws: paths, proofs, bytes, keys, heads, evidence; no statement of the seat is proved here. -/
import Derived.Test.YtahdekllphehkaaDoorMA
set_option linter.unusedVariables false
set_option linter.unusedSimpArgs false
namespace Go.Proofs.YtahdekllphehkaaDoor
open Go.WL Go.Spec

/-- The document's path. -/
def pathL (l : List Hash) (i : Nat) : List Hash :=
  if h : l.length < 2 then []
  else if i < sp l.length then pathL (l.take (sp l.length)) i ++ [rootL (l.drop (sp l.length))]
  else pathL (l.drop (sp l.length)) (i - sp l.length) ++ [rootL (l.take (sp l.length))]
termination_by l.length
decreasing_by
  · have := sp_lt (n := l.length) (by omega); simp; omega
  · have := sp_pos (n := l.length) (by omega); simp; omega
theorem pathL_small {l : List Hash} (i : Nat) (h : l.length < 2) : pathL l i = [] := by rw [pathL, dif_pos h]
theorem pathL_left {l : List Hash} {i : Nat} (h : 2 ≤ l.length) (hi : i < sp l.length) : pathL l i = pathL (l.take (sp l.length)) i ++ [rootL (l.drop (sp l.length))] := by
  rw [pathL, dif_neg (by omega), if_pos hi]
theorem pathL_right {l : List Hash} {i : Nat} (h : 2 ≤ l.length) (hi : ¬ i < sp l.length) : pathL l i = pathL (l.drop (sp l.length)) (i - sp l.length) ++ [rootL (l.take (sp l.length))] := by
  rw [pathL, dif_neg (by omega), if_neg hi]

/-- What a leaf and a path come to by the document's recursion; the path from its end. -/
def comeR (leaf : Hash) : Nat → Nat → List Hash → Option Hash
  | _, n, [] => if n = 1 then some leaf else none
  | i, n, x :: r => if n = 1 then none else if i < sp n then (comeR leaf i (sp n) r).map (fun h => node h x) else (comeR leaf (i - sp n) (n - sp n) r).map (fun h => node x h)

/-- Shifted while the number is even. -/
def strip (i last : Nat) : Nat × Nat := if h : i % 2 = 0 ∧ 0 < i then strip (i / 2) (last / 2) else (i, last)
termination_by i
theorem strip_even {i last : Nat} (h : i % 2 = 0) (h0 : 0 < i) : strip i last = strip (i / 2) (last / 2) := by rw [strip, dif_pos ⟨h, h0⟩]
theorem strip_else {i last : Nat} (h : ¬ (i % 2 = 0 ∧ 0 < i)) : strip i last = (i, last) := by rw [strip, dif_neg h]

/-- What climbing comes to. -/
def chk : Hash → Nat → Nat → List Hash → Option Hash
  | leaf, _, last, [] => if last = 0 then some leaf else none
  | leaf, i, last, h :: t =>
    if last = 0 then none
    else if i % 2 = 1 ∨ i = last then chk (node h leaf) ((strip i last).1 / 2) ((strip i last).2 / 2) t
    else chk (node leaf h) (i / 2) (last / 2) t
theorem chk_nil (leaf : Hash) (i last : Nat) : chk leaf i last [] = if last = 0 then some leaf else none := by rw [chk]
theorem chk_done (leaf h : Hash) (i : Nat) (t : List Hash) : chk leaf i 0 (h :: t) = none := by rw [chk, if_pos rfl]
theorem chk_step {leaf h : Hash} {i last : Nat} {t : List Hash} (hi : i % 2 = 1 ∨ i = last) (hl : last ≠ 0) : chk leaf i last (h :: t) = chk (node h leaf) ((strip i last).1 / 2) ((strip i last).2 / 2) t := by
  rw [chk, if_neg hl, if_pos hi]
theorem chk_odd {leaf h : Hash} {i last : Nat} {t : List Hash} (hi : i % 2 = 1) (hl : last ≠ 0) : chk leaf i last (h :: t) = chk (node h leaf) (i / 2) (last / 2) t := by
  rw [chk, if_neg hl, if_pos (.inl hi), strip_else (by omega)]
theorem chk_even {leaf h : Hash} {i last : Nat} {t : List Hash} (hi : i % 2 = 0) (hne : i ≠ last) (hl : last ≠ 0) : chk leaf i last (h :: t) = chk (node leaf h) (i / 2) (last / 2) t := by
  rw [chk, if_neg hl, if_neg (by omega)]
theorem chk_skip {leaf : Hash} {i : Nat} {p : List Hash} (hi : i % 2 = 0) (h0 : 0 < i) : chk leaf i i p = chk leaf (i / 2) (i / 2) p := by
  cases p with
  | nil => rw [chk_nil, chk_nil, if_neg (by omega), if_neg (by omega)]
  | cons h t => rw [chk_step (.inr rfl) (by omega), chk_step (.inr rfl) (by omega), strip_even hi h0]

theorem chk_left (j : Nat) : ∀ (leaf x : Hash) (i last : Nat) (p : List Hash), i < 2 ^ j → 2 ^ j ≤ last → last < 2 ^ (j + 1) → chk leaf i last (p ++ [x]) = (chk leaf i (2 ^ j - 1) p).map (fun h => node h x) := by
  induction j with
  | zero =>
    intro leaf x i last p h1 h2 h3
    have hi : i = 0 := by simp at h1; exact h1
    have hl : last = 1 := by simp at h2 h3; omega
    subst hi
    subst hl
    cases p with
    | nil => rw [List.nil_append, chk_even (by decide) (by decide) (by decide), chk_nil, chk_nil]; rfl
    | cons h t =>
      rw [List.cons_append, chk_even (by decide) (by decide) (by decide), show 2 ^ 0 - 1 = 0 from rfl, chk_done]
      cases t with
      | nil => exact chk_done ..
      | cons _ _ => exact chk_done ..
  | succ j ih =>
    intro leaf x i last p h1 h2 h3
    have hp : 2 ^ (j + 1) = 2 ^ j * 2 := Nat.pow_succ ..
    have hp2 : 2 ^ (j + 1 + 1) = 2 ^ (j + 1) * 2 := Nat.pow_succ ..
    have h0 : 0 < 2 ^ j := Nat.two_pow_pos j
    have hh : (2 ^ (j + 1) - 1) / 2 = 2 ^ j - 1 := by omega
    rcases Nat.mod_two_eq_zero_or_one i with hi | hi
    · cases p with
      | nil => rw [List.nil_append, chk_even hi (by omega) (by omega), chk_nil, chk_nil, if_neg (by omega), if_neg (by omega)]; rfl
      | cons h t => rw [List.cons_append, chk_even hi (by omega) (by omega), chk_even hi (by omega) (by omega), hh]; exact ih _ _ _ _ _ (by omega) (by omega) (by omega)
    · cases p with
      | nil => rw [List.nil_append, chk_odd hi (by omega), chk_nil, chk_nil, if_neg (by omega), if_neg (by omega)]; rfl
      | cons h t => rw [List.cons_append, chk_odd hi (by omega), chk_odd hi (by omega), hh]; exact ih _ _ _ _ _ (by omega) (by omega) (by omega)

theorem chk_right (j : Nat) : ∀ (leaf x : Hash) (i last : Nat) (p : List Hash), i ≤ last → last < 2 ^ j → chk leaf (2 ^ j + i) (2 ^ j + last) (p ++ [x]) = (chk leaf i last p).map (fun h => node x h) := by
  induction j with
  | zero =>
    intro leaf x i last p h1 h2
    have hl : last = 0 := by simp at h2; exact h2
    subst hl
    have hi : i = 0 := by omega
    subst hi
    cases p with
    | nil => rw [List.nil_append, chk_odd (by decide) (by decide), chk_nil, chk_nil]; rfl
    | cons h t =>
      rw [List.cons_append, chk_odd (by decide) (by decide), chk_done]
      cases t with
      | nil => exact chk_done ..
      | cons _ _ => exact chk_done ..
  | succ j ih =>
    intro leaf x i last p h1 h2
    have hp : 2 ^ (j + 1) = 2 ^ j * 2 := Nat.pow_succ ..
    have h0 : 0 < 2 ^ j := Nat.two_pow_pos j
    have ei : (2 ^ (j + 1) + i) / 2 = 2 ^ j + i / 2 := by omega
    have el : (2 ^ (j + 1) + last) / 2 = 2 ^ j + last / 2 := by omega
    rcases Nat.mod_two_eq_zero_or_one i with hi | hi
    · by_cases he : i = last
      · subst he
        rw [chk_skip (by omega) (by omega), ei, ih _ _ _ _ _ (Nat.le_refl _) (by omega)]
        rcases Nat.eq_zero_or_pos i with hz | hz
        · subst hz; rfl
        · rw [chk_skip hi hz]
      · cases p with
        | nil => rw [List.nil_append, chk_even (by omega) (by omega) (by omega), chk_nil, chk_nil, if_neg (by omega), if_neg (by omega)]; rfl
        | cons h t => rw [List.cons_append, chk_even (by omega) (by omega) (by omega), chk_even hi he (by omega), ei, el]; exact ih _ _ _ _ _ (by omega) (by omega)
    · cases p with
      | nil => rw [List.nil_append, chk_odd (by omega) (by omega), chk_nil, chk_nil, if_neg (by omega), if_neg (by omega)]; rfl
      | cons h t => rw [List.cons_append, chk_odd (by omega) (by omega), chk_odd hi (by omega), ei, el]; exact ih _ _ _ _ _ (by omega) (by omega)

theorem sp_pow {n : Nat} (h : 2 ≤ n) : ∃ j, sp n = 2 ^ j ∧ 2 ^ j ≤ n - 1 ∧ n - 1 < 2 ^ (j + 1) := by
  have h1 := sp_lt h
  have h2 := sp_ge h
  have : ∃ j, sp n = 2 ^ j := ⟨(n - 1).log2, by unfold sp; rw [if_neg (by omega)]⟩
  obtain ⟨j, hj⟩ := this
  have hp : 2 ^ (j + 1) = 2 ^ j * 2 := Nat.pow_succ ..
  have h0 : 0 < 2 ^ j := Nat.two_pow_pos j
  exact ⟨j, hj, by omega, by omega⟩

theorem chk_come (n : Nat) : ∀ (leaf : Hash) (i : Nat) (p : List Hash), 1 ≤ n → i < n → chk leaf i (n - 1) p.reverse = comeR leaf i n p := by
  induction n using Nat.strongRecOn with
  | _ n ih =>
    intro leaf i p hn hi
    rcases Nat.lt_or_ge n 2 with h | h
    · have hn1 : n = 1 := by omega
      subst hn1
      cases p with
      | nil => rw [List.reverse_nil, chk_nil, comeR]; rfl
      | cons x r =>
        rw [comeR, if_pos rfl, List.reverse_cons]
        cases r.reverse with
        | nil => exact chk_done ..
        | cons _ _ => exact chk_done ..
    · obtain ⟨j, hj, h1, h2⟩ := sp_pow h
      have hlt := sp_lt h
      have h0 : 0 < 2 ^ j := Nat.two_pow_pos j
      have hp : 2 ^ (j + 1) = 2 ^ j * 2 := Nat.pow_succ ..
      cases p with
      | nil => rw [List.reverse_nil, chk_nil, comeR, if_neg (by omega), if_neg (by omega)]
      | cons x r =>
        rw [comeR, if_neg (by omega), List.reverse_cons, hj]
        by_cases hl : i < 2 ^ j
        · rw [if_pos hl, chk_left j _ _ _ _ _ hl h1 h2, ih (2 ^ j) (by omega) _ _ _ (by omega) hl]
        · rw [if_neg hl, ← ih (n - 2 ^ j) (by omega) _ _ _ (by omega) (by omega), ← chk_right j _ _ _ _ _ (by omega) (by omega), show 2 ^ j + (i - 2 ^ j) = i by omega, show 2 ^ j + (n - 2 ^ j - 1) = n - 1 by omega]

/-- A path's length. -/
def depth (i n : Nat) : Nat := if h : n < 2 then 0 else if i < sp n then depth i (sp n) + 1 else depth (i - sp n) (n - sp n) + 1
termination_by n
decreasing_by
  · exact sp_lt (by omega)
  · have := sp_pos (n := n) (by omega); omega
theorem depth_small {i n : Nat} (h : n < 2) : depth i n = 0 := by rw [depth, dif_pos h]
theorem depth_left {i n : Nat} (h : 2 ≤ n) (hi : i < sp n) : depth i n = depth i (sp n) + 1 := by rw [depth, dif_neg (by omega), if_pos hi]
theorem depth_right {i n : Nat} (h : 2 ≤ n) (hi : ¬ i < sp n) : depth i n = depth (i - sp n) (n - sp n) + 1 := by rw [depth, dif_neg (by omega), if_neg hi]
theorem pathL_length (m : Nat) : ∀ (l : List Hash) (i : Nat), l.length ≤ m → (pathL l i).length = depth i l.length := by
  induction m with
  | zero => intro l i h; rw [pathL_small _ (by omega), depth_small (by omega)]; rfl
  | succ m ih =>
    intro l i h
    rcases Nat.lt_or_ge l.length 2 with h2 | h2
    · rw [pathL_small _ h2, depth_small h2]; rfl
    · have h3 := sp_lt h2
      have h4 := sp_pos h2
      by_cases hi : i < sp l.length
      · rw [pathL_left h2 hi, depth_left h2 hi, List.length_append, ih _ _ (by simp; omega), List.length_take, Nat.min_eq_left (by omega)]; rfl
      · rw [pathL_right h2 hi, depth_right h2 hi, List.length_append, ih _ _ (by simp; omega), List.length_drop]; rfl
theorem comeR_length (leaf : Hash) (p : List Hash) : ∀ (i n : Nat), 1 ≤ n → (comeR leaf i n p).isSome = true → p.length = depth i n := by
  induction p with
  | nil =>
    intro i n hn h
    rw [comeR] at h
    by_cases h1 : n = 1
    · rw [depth_small (by omega)]; rfl
    · rw [if_neg h1] at h; cases h
  | cons x r ih =>
    intro i n hn h
    rw [comeR] at h
    by_cases h1 : n = 1
    · rw [if_pos h1] at h; cases h
    · rw [if_neg h1] at h
      have h2 := sp_lt (n := n) (by omega)
      have h3 := sp_pos (n := n) (by omega)
      by_cases hi : i < sp n
      · rw [if_pos hi, Option.isSome_map] at h
        rw [depth_left (by omega) hi, ← ih _ _ (by omega) h]; rfl
      · rw [if_neg hi, Option.isSome_map] at h
        rw [depth_right (by omega) hi, ← ih _ _ (by omega) h]; rfl
/-- Each leaf's path comes to the root. -/
theorem come_path (m : Nat) : ∀ (l : List Hash) (i : Nat), l.length ≤ m → i < l.length → comeR (l.getD i zeroHash) i l.length (pathL l i).reverse = some (rootL l) := by
  induction m with
  | zero => intro l i h hi; omega
  | succ m ih =>
    intro l i h hi
    rcases Nat.lt_or_ge l.length 2 with h2 | h2
    · have h1 : l.length = 1 := by omega
      have hi0 : i = 0 := by omega
      subst hi0
      rw [pathL_small _ h2, List.reverse_nil, comeR, if_pos h1]
      match l, h1 with
      | [x], _ => rw [rootL_one]; rfl
    · have h3 := sp_lt h2
      have h4 := sp_pos h2
      rw [rootL_more l h2]
      by_cases hs : i < sp l.length
      · rw [pathL_left h2 hs, List.reverse_append, List.reverse_singleton, List.singleton_append, comeR, if_neg (by omega), if_pos hs]
        have := ih (l.take (sp l.length)) i (by simp; omega) (by simp; omega)
        rw [List.length_take, Nat.min_eq_left (by omega)] at this
        rw [show l.getD i zeroHash = (l.take (sp l.length)).getD i zeroHash by simp [List.getD_eq_getElem?_getD, List.getElem?_take_of_lt hs], this]
        rfl
      · rw [pathL_right h2 hs, List.reverse_append, List.reverse_singleton, List.singleton_append, comeR, if_neg (by omega), if_neg hs]
        have := ih (l.drop (sp l.length)) (i - sp l.length) (by simp; omega) (by simp; omega)
        rw [List.length_drop] at this
        rw [show l.getD i zeroHash = (l.drop (sp l.length)).getD (i - sp l.length) zeroHash by simp [List.getD_eq_getElem?_getD, List.getElem?_drop, show sp l.length + (i - sp l.length) = i by omega], this]
        rfl
theorem depth_le (j : Nat) : ∀ (i n : Nat), n ≤ 2 ^ j → depth i n ≤ j := by
  induction j with
  | zero => intro i n h; rw [depth_small (by simp at h; omega)]; exact Nat.le_refl _
  | succ j ih =>
    intro i n h
    rcases Nat.lt_or_ge n 2 with h2 | h2
    · rw [depth_small h2]; omega
    · obtain ⟨q, hq, h3, h4⟩ := sp_pow h2
      have hp : 2 ^ (q + 1) = 2 ^ q * 2 := Nat.pow_succ ..
      have hqj : q ≤ j := by
        have : 2 ^ q < 2 ^ (j + 1) := by omega
        have := (Nat.pow_lt_pow_iff_right (a := 2) (by decide)).1 this
        omega
      have hle : 2 ^ q ≤ 2 ^ j := Nat.pow_le_pow_right (by decide) hqj
      by_cases hs : i < sp n
      · rw [depth_left h2 hs]; have := ih i (sp n) (by omega); omega
      · rw [depth_right h2 hs]; have := ih (i - sp n) (n - sp n) (by omega); omega
attribute [irreducible] comeR chk
end Go.Proofs.YtahdekllphehkaaDoor

namespace Go.Proofs.YtahdekllphehkaaDoor
open Go.WL Go.Spec

/-- Two hashes climb. -/
def chk2 : Hash → Hash → Nat → Nat → List Hash → Option (Hash × Hash)
  | a, b, _, last, [] => if last = 0 then some (a, b) else none
  | a, b, i, last, h :: t =>
    if last = 0 then none
    else if i % 2 = 1 ∨ i = last then chk2 (node h a) (node h b) ((strip i last).1 / 2) ((strip i last).2 / 2) t
    else chk2 a (node b h) (i / 2) (last / 2) t
theorem chk2_nil (a b : Hash) (i last : Nat) : chk2 a b i last [] = if last = 0 then some (a, b) else none := by rw [chk2]
theorem chk2_done (a b h : Hash) (i : Nat) (t : List Hash) : chk2 a b i 0 (h :: t) = none := by rw [chk2, if_pos rfl]
theorem chk2_step {a b h : Hash} {i last : Nat} {t : List Hash} (hi : i % 2 = 1 ∨ i = last) (hl : last ≠ 0) : chk2 a b i last (h :: t) = chk2 (node h a) (node h b) ((strip i last).1 / 2) ((strip i last).2 / 2) t := by
  rw [chk2, if_neg hl, if_pos hi]
theorem chk2_odd {a b h : Hash} {i last : Nat} {t : List Hash} (hi : i % 2 = 1) (hl : last ≠ 0) : chk2 a b i last (h :: t) = chk2 (node h a) (node h b) (i / 2) (last / 2) t := by
  rw [chk2, if_neg hl, if_pos (.inl hi), strip_else (by omega)]
theorem chk2_even {a b h : Hash} {i last : Nat} {t : List Hash} (hi : i % 2 = 0) (hne : i ≠ last) (hl : last ≠ 0) : chk2 a b i last (h :: t) = chk2 a (node b h) (i / 2) (last / 2) t := by
  rw [chk2, if_neg hl, if_neg (by omega)]
theorem chk2_skip {a b : Hash} {i : Nat} {p : List Hash} (hi : i % 2 = 0) (h0 : 0 < i) : chk2 a b i i p = chk2 a b (i / 2) (i / 2) p := by
  cases p with
  | nil => rw [chk2_nil, chk2_nil, if_neg (by omega), if_neg (by omega)]
  | cons h t => rw [chk2_step (.inr rfl) (by omega), chk2_step (.inr rfl) (by omega), strip_even hi h0]

theorem chk2_left (j : Nat) : ∀ (a b x : Hash) (i last : Nat) (p : List Hash), i < 2 ^ j → 2 ^ j ≤ last → last < 2 ^ (j + 1) → chk2 a b i last (p ++ [x]) = (chk2 a b i (2 ^ j - 1) p).map (fun h => (h.1, node h.2 x)) := by
  induction j with
  | zero =>
    intro a b x i last p h1 h2 h3
    have hi : i = 0 := by simp at h1; exact h1
    have hl : last = 1 := by simp at h2 h3; omega
    subst hi
    subst hl
    cases p with
    | nil => rw [List.nil_append, chk2_even (by decide) (by decide) (by decide), chk2_nil, chk2_nil]; rfl
    | cons h t =>
      rw [List.cons_append, chk2_even (by decide) (by decide) (by decide), show 2 ^ 0 - 1 = 0 from rfl, chk2_done]
      cases t with
      | nil => exact chk2_done ..
      | cons _ _ => exact chk2_done ..
  | succ j ih =>
    intro a b x i last p h1 h2 h3
    have hp : 2 ^ (j + 1) = 2 ^ j * 2 := Nat.pow_succ ..
    have hp2 : 2 ^ (j + 1 + 1) = 2 ^ (j + 1) * 2 := Nat.pow_succ ..
    have h0 : 0 < 2 ^ j := Nat.two_pow_pos j
    have hh : (2 ^ (j + 1) - 1) / 2 = 2 ^ j - 1 := by omega
    rcases Nat.mod_two_eq_zero_or_one i with hi | hi
    · cases p with
      | nil => rw [List.nil_append, chk2_even hi (by omega) (by omega), chk2_nil, chk2_nil, if_neg (by omega), if_neg (by omega)]; rfl
      | cons h t => rw [List.cons_append, chk2_even hi (by omega) (by omega), chk2_even hi (by omega) (by omega), hh]; exact ih _ _ _ _ _ _ (by omega) (by omega) (by omega)
    · cases p with
      | nil => rw [List.nil_append, chk2_odd hi (by omega), chk2_nil, chk2_nil, if_neg (by omega), if_neg (by omega)]; rfl
      | cons h t => rw [List.cons_append, chk2_odd hi (by omega), chk2_odd hi (by omega), hh]; exact ih _ _ _ _ _ _ (by omega) (by omega) (by omega)

theorem chk2_right (j : Nat) : ∀ (a b x : Hash) (i last : Nat) (p : List Hash), i ≤ last → last < 2 ^ j → chk2 a b (2 ^ j + i) (2 ^ j + last) (p ++ [x]) = (chk2 a b i last p).map (fun h => (node x h.1, node x h.2)) := by
  induction j with
  | zero =>
    intro a b x i last p h1 h2
    have hl : last = 0 := by simp at h2; exact h2
    subst hl
    have hi : i = 0 := by omega
    subst hi
    cases p with
    | nil => rw [List.nil_append, chk2_odd (by decide) (by decide), chk2_nil, chk2_nil]; rfl
    | cons h t =>
      rw [List.cons_append, chk2_odd (by decide) (by decide), chk2_done]
      cases t with
      | nil => exact chk2_done ..
      | cons _ _ => exact chk2_done ..
  | succ j ih =>
    intro a b x i last p h1 h2
    have hp : 2 ^ (j + 1) = 2 ^ j * 2 := Nat.pow_succ ..
    have h0 : 0 < 2 ^ j := Nat.two_pow_pos j
    have ei : (2 ^ (j + 1) + i) / 2 = 2 ^ j + i / 2 := by omega
    have el : (2 ^ (j + 1) + last) / 2 = 2 ^ j + last / 2 := by omega
    rcases Nat.mod_two_eq_zero_or_one i with hi | hi
    · by_cases he : i = last
      · subst he
        rw [chk2_skip (by omega) (by omega), ei, ih _ _ _ _ _ _ (Nat.le_refl _) (by omega)]
        rcases Nat.eq_zero_or_pos i with hz | hz
        · subst hz; rfl
        · rw [chk2_skip hi hz]
      · cases p with
        | nil => rw [List.nil_append, chk2_even (by omega) (by omega) (by omega), chk2_nil, chk2_nil, if_neg (by omega), if_neg (by omega)]; rfl
        | cons h t => rw [List.cons_append, chk2_even (by omega) (by omega) (by omega), chk2_even hi he (by omega), ei, el]; exact ih _ _ _ _ _ _ (by omega) (by omega)
    · cases p with
      | nil => rw [List.nil_append, chk2_odd (by omega) (by omega), chk2_nil, chk2_nil, if_neg (by omega), if_neg (by omega)]; rfl
      | cons h t => rw [List.cons_append, chk2_odd (by omega) (by omega), chk2_odd hi (by omega), ei, el]; exact ih _ _ _ _ _ _ (by omega) (by omega)

/-- Up to where the older tree's last full one hangs. -/
def ones (i last : Nat) : Nat × Nat := if h : i % 2 = 1 then ones (i / 2) (last / 2) else (i, last)
termination_by i
theorem ones_odd {i last : Nat} (h : i % 2 = 1) : ones i last = ones (i / 2) (last / 2) := by rw [ones, dif_pos h]
theorem ones_even {i last : Nat} (h : ¬ i % 2 = 1) : ones i last = (i, last) := by rw [ones, dif_neg h]
theorem ones_left (j : Nat) : ∀ i last, i < 2 ^ j → 2 ^ j ≤ last → last < 2 ^ (j + 1) → ∃ q c L, ones i last = (c, L) ∧ ones i (2 ^ j - 1) = (c, 2 ^ q - 1) ∧ c < 2 ^ q ∧ 2 ^ q ≤ L ∧ L < 2 ^ (q + 1) := by
  induction j with
  | zero =>
    intro i last h1 h2 h3
    have hi : i = 0 := by simp at h1; exact h1
    subst hi
    exact ⟨0, 0, last, ones_even (by decide), ones_even (by decide), by decide, h2, h3⟩
  | succ j ih =>
    intro i last h1 h2 h3
    have hp : 2 ^ (j + 1) = 2 ^ j * 2 := Nat.pow_succ ..
    have hp2 : 2 ^ (j + 1 + 1) = 2 ^ (j + 1) * 2 := Nat.pow_succ ..
    have h0 : 0 < 2 ^ j := Nat.two_pow_pos j
    by_cases hi : i % 2 = 1
    · rw [ones_odd hi, ones_odd hi, show (2 ^ (j + 1) - 1) / 2 = 2 ^ j - 1 by omega]
      exact ih _ _ (by omega) (by omega) (by omega)
    · exact ⟨j + 1, i, last, ones_even hi, ones_even hi, h1, h2, h3⟩
theorem ones_right (j : Nat) : ∀ i last, i < last → last < 2 ^ j → ∃ q a b, ones (2 ^ j + i) (2 ^ j + last) = (2 ^ q + a, 2 ^ q + b) ∧ ones i last = (a, b) ∧ a ≤ b ∧ b < 2 ^ q := by
  induction j with
  | zero => intro i last h1 h2; simp at h2; omega
  | succ j ih =>
    intro i last h1 h2
    have hp : 2 ^ (j + 1) = 2 ^ j * 2 := Nat.pow_succ ..
    have h0 : 0 < 2 ^ j := Nat.two_pow_pos j
    by_cases hi : i % 2 = 1
    · rw [ones_odd (i := 2 ^ (j + 1) + i) (by omega), ones_odd hi, show (2 ^ (j + 1) + i) / 2 = 2 ^ j + i / 2 by omega, show (2 ^ (j + 1) + last) / 2 = 2 ^ j + last / 2 by omega]
      exact ih _ _ (by omega) (by omega)
    · exact ⟨j + 1, i, last, ones_even (by omega), ones_even hi, by omega, h2⟩
theorem ones_full (j : Nat) : ones (2 ^ j - 1) (2 ^ j - 1) = (0, 0) := by
  induction j with
  | zero => exact ones_even (by decide)
  | succ j ih =>
    have hp : 2 ^ (j + 1) = 2 ^ j * 2 := Nat.pow_succ ..
    have h0 : 0 < 2 ^ j := Nat.two_pow_pos j
    rw [ones_odd (by omega), show (2 ^ (j + 1) - 1) / 2 = 2 ^ j - 1 by omega, ih]

/-- What the program's climbing comes to. -/
def climb (known : Bool) (older : Hash) (m n : Nat) (p : List Hash) : Option (Hash × Hash) :=
  if known = true ∧ (ones (m - 1) (n - 1)).1 = 0 then chk2 older older (ones (m - 1) (n - 1)).1 (ones (m - 1) (n - 1)).2 p
  else match p with
    | [] => none
    | h :: t => chk2 h h (ones (m - 1) (n - 1)).1 (ones (m - 1) (n - 1)).2 t
/-- What the document's recursion comes to; the proof from its end. -/
def saysR (older : Hash) : Nat → Nat → Bool → List Hash → Option (Hash × Hash)
  | m, n, known, [] => if m = n ∧ known = true then some (older, older) else none
  | m, n, known, x :: r =>
    if m = n then (if known = false ∧ r = [] then some (x, x) else none)
    else if m ≤ sp n then (saysR older m (sp n) known r).map (fun h => (h.1, node h.2 x))
    else (saysR older (m - sp n) (n - sp n) false r).map (fun h => (node x h.1, node x h.2))
theorem climb_eq {known : Bool} {older : Hash} {m n c L : Nat} (p : List Hash) (h : ones (m - 1) (n - 1) = (c, L)) : climb known older m n p = if known = true ∧ c = 0 then chk2 older older c L p else match p with | [] => none | h :: t => chk2 h h c L t := by
  unfold climb; rw [h]
theorem climb_says (n : Nat) : ∀ (known : Bool) (older : Hash) (m : Nat) (p : List Hash), 1 ≤ m → (m < n ∨ ∃ j, m = n ∧ n = 2 ^ j) → climb known older m n p.reverse = saysR older m n known p := by
  induction n using Nat.strongRecOn with
  | _ n ih =>
    intro known older m p hm hmn
    by_cases he : m = n
    · obtain ⟨j, hj⟩ : ∃ j, n = 2 ^ j := by
        rcases hmn with h | ⟨j, _, h⟩
        · omega
        · exact ⟨j, h⟩
      have ho : ones (m - 1) (n - 1) = (0, 0) := by rw [he, hj, ones_full]
      rw [climb_eq _ ho]
      cases p with
      | nil =>
        rw [saysR, List.reverse_nil, chk2_nil]
        cases known <;> simp [he]
      | cons x r =>
        rw [saysR, if_pos he, List.reverse_cons]
        cases known with
        | true =>
          rw [if_pos ⟨rfl, rfl⟩, if_neg (by simp)]
          cases r.reverse with
          | nil => exact chk2_done ..
          | cons _ _ => exact chk2_done ..
        | false =>
          rw [if_neg (by simp)]
          rcases List.eq_nil_or_concat r with rfl | ⟨r', y, rfl⟩
          · simp [chk2_nil]
          · rw [if_neg (by simp)]
            simp only [List.concat_eq_append, List.reverse_append, List.reverse_singleton, List.singleton_append, List.cons_append]
            cases r'.reverse with
            | nil => exact chk2_done ..
            | cons _ _ => exact chk2_done ..
    · have hlt : m < n := by omega
      obtain ⟨j, hj, h1, h2⟩ := sp_pow (n := n) (by omega)
      have h0 : 0 < 2 ^ j := Nat.two_pow_pos j
      have hp : 2 ^ (j + 1) = 2 ^ j * 2 := Nat.pow_succ ..
      by_cases hk : m ≤ 2 ^ j
      · obtain ⟨q, c, L, o1, o2, o3, o4, o5⟩ := ones_left j (m - 1) (n - 1) (by omega) h1 h2
        have hq : 0 < 2 ^ q := Nat.two_pow_pos q
        rw [climb_eq _ o1]
        cases p with
        | nil =>
          have es : saysR older m n known [] = none := by rw [saysR, if_neg (fun h => he h.1)]
          rw [es, List.reverse_nil]
          by_cases hc : known = true ∧ c = 0
          · rw [if_pos hc, chk2_nil, if_neg (by omega)]
          · rw [if_neg hc]
        | cons x r =>
          rw [saysR, if_neg he, hj, if_pos hk, ← ih (2 ^ j) (by omega) known older m r hm (by rcases Nat.lt_or_ge m (2 ^ j) with h | h; exact .inl h; exact .inr ⟨j, by omega, rfl⟩), climb_eq _ o2, List.reverse_cons]
          by_cases hc : known = true ∧ c = 0
          · rw [if_pos hc, if_pos hc, chk2_left q _ _ _ _ _ _ o3 o4 o5]
          · rw [if_neg hc, if_neg hc]
            cases r.reverse with
            | nil => show chk2 x x c L [] = none; rw [chk2_nil, if_neg (by omega)]
            | cons h t => show chk2 h h c L (t ++ [x]) = _; rw [chk2_left q _ _ _ _ _ _ o3 o4 o5]
      · obtain ⟨q, a, b, o1, o2, o3, o4⟩ := ones_right j (m - 2 ^ j - 1) (n - 2 ^ j - 1) (by omega) (by omega)
        have hq : 0 < 2 ^ q := Nat.two_pow_pos q
        rw [show 2 ^ j + (m - 2 ^ j - 1) = m - 1 by omega, show 2 ^ j + (n - 2 ^ j - 1) = n - 1 by omega] at o1
        rw [climb_eq _ o1, if_neg (by omega)]
        cases p with
        | nil =>
          have es : saysR older m n known [] = none := by rw [saysR, if_neg (fun h => he h.1)]
          rw [es, List.reverse_nil]
        | cons x r =>
          rw [saysR, if_neg he, hj, if_neg hk, ← ih (n - 2 ^ j) (by omega) false older (m - 2 ^ j) r (by omega) (.inl (by omega)), climb_eq _ o2, if_neg (by simp), List.reverse_cons]
          cases r.reverse with
          | nil => show chk2 x x _ _ [] = none; rw [chk2_nil, if_neg (by omega)]
          | cons h t => show chk2 h h _ _ (t ++ [x]) = _; rw [chk2_right q _ _ _ _ _ _ o3 o4]

/-- The document's sub-proof. -/
def subL (l : List Hash) (m : Nat) (known : Bool) : List Hash :=
  if h : m = l.length ∨ l.length < 2 then (if known = true then [] else [rootL l])
  else if m ≤ sp l.length then subL (l.take (sp l.length)) m known ++ [rootL (l.drop (sp l.length))]
  else subL (l.drop (sp l.length)) (m - sp l.length) false ++ [rootL (l.take (sp l.length))]
termination_by l.length
decreasing_by
  · have := sp_lt (n := l.length) (by omega); simp; omega
  · have := sp_pos (n := l.length) (by omega); simp; omega
theorem subL_full {l : List Hash} {m : Nat} (known : Bool) (h : m = l.length) : subL l m known = if known = true then [] else [rootL l] := by rw [subL, dif_pos (.inl h)]
theorem subL_left {l : List Hash} {m : Nat} (known : Bool) (h : m ≠ l.length) (h2 : 2 ≤ l.length) (hk : m ≤ sp l.length) : subL l m known = subL (l.take (sp l.length)) m known ++ [rootL (l.drop (sp l.length))] := by
  rw [subL, dif_neg (by omega), if_pos hk]
theorem subL_right {l : List Hash} {m : Nat} (known : Bool) (h : m ≠ l.length) (h2 : 2 ≤ l.length) (hk : ¬ m ≤ sp l.length) : subL l m known = subL (l.drop (sp l.length)) (m - sp l.length) false ++ [rootL (l.take (sp l.length))] := by
  rw [subL, dif_neg (by omega), if_neg hk]
theorem says_sub (z : Nat) : ∀ (l : List Hash) (m : Nat) (known : Bool) (older : Hash), l.length ≤ z → 1 ≤ m → m ≤ l.length → (known = true → older = rootL (l.take m)) →
    saysR older m l.length known (subL l m known).reverse = some (rootL (l.take m), rootL l) := by
  induction z with
  | zero => intro l m known older h h1 h2; omega
  | succ z ih =>
    intro l m known older hz h1 h2 ho
    by_cases he : m = l.length
    · rw [subL_full known he]
      have ht : l.take m = l := by rw [he, List.take_length]
      rw [ht] at ho ⊢
      cases known with
      | true =>
        rw [if_pos rfl, List.reverse_nil, saysR, if_pos ⟨he, rfl⟩, ho rfl]
      | false => rw [if_neg (by simp), List.reverse_singleton, saysR, if_pos he, if_pos ⟨rfl, rfl⟩]
    · have hl2 : 2 ≤ l.length := by omega
      have h3 := sp_lt hl2
      have h4 := sp_pos hl2
      have h5 := sp_ge hl2
      have hr := rootL_more l hl2
      by_cases hk : m ≤ sp l.length
      · rw [subL_left known he hl2 hk, List.reverse_append, List.reverse_singleton, List.singleton_append, saysR, if_neg he, if_pos hk]
        have hm : (l.take (sp l.length)).take m = l.take m := by rw [List.take_take, Nat.min_eq_left hk]
        have := ih (l.take (sp l.length)) m known older (by simp; omega) h1 (by simp; omega) (by rw [hm]; exact ho)
        rw [List.length_take, Nat.min_eq_left (by omega)] at this
        rw [this, hm, hr]
        rfl
      · rw [subL_right known he hl2 hk, List.reverse_append, List.reverse_singleton, List.singleton_append, saysR, if_neg he, if_neg hk]
        have := ih (l.drop (sp l.length)) (m - sp l.length) false older (by simp; omega) (by omega) (by simp; omega) (by simp)
        rw [List.length_drop] at this
        rw [this, Option.map_some]
        have hlt : (l.take m).length = m := by simp; omega
        obtain ⟨j, hj, h6, h7⟩ := sp_pow hl2
        have hp : 2 ^ (j + 1) = 2 ^ j * 2 := Nat.pow_succ ..
        have hsm : sp m = sp l.length := by rw [hj]; exact sp_of (by omega) (by omega)
        have hrm := rootL_more (l.take m) (by omega)
        rw [hlt, hsm, List.take_take, Nat.min_eq_left (by omega), List.drop_take] at hrm
        rw [hrm, hr]
attribute [irreducible] chk2 climb saysR
end Go.Proofs.YtahdekllphehkaaDoor

namespace Go.Proofs.YtahdekllphehkaaDoor
open Go.WL Go.Spec

def aheadB (n : Nat) : Bytes := if h : n < 128 then [UInt8.ofNat (n + 128)] else aheadB (n / 128) ++ [UInt8.ofNat (n % 128 + 128)]
termination_by n
theorem aheadB_small {n : Nat} (h : n < 128) : aheadB n = [UInt8.ofNat (n + 128)] := by rw [aheadB, dif_pos h]
theorem aheadB_more {n : Nat} (h : ¬ n < 128) : aheadB n = aheadB (n / 128) ++ [UInt8.ofNat (n % 128 + 128)] := by rw [aheadB, dif_neg h]
/-- A number in as few bytes as need be. -/
def numB (n : Nat) : Bytes := if n < 128 then [UInt8.ofNat n] else aheadB (n / 128) ++ [UInt8.ofNat (n % 128)]
theorem numB_small {n : Nat} (h : n < 128) : numB n = [UInt8.ofNat n] := by rw [numB, if_pos h]
theorem numB_more {n : Nat} (h : ¬ n < 128) : numB n = aheadB (n / 128) ++ [UInt8.ofNat (n % 128)] := by rw [numB, if_neg h]
/-- What stands ahead, some bytes of it being read. -/
def readP : Nat → Bytes → Option (Nat × Bytes)
  | _, [] => none
  | n, c :: t => if n = 0 ∧ c.toNat = 128 ∨ 144115188075855872 ≤ n then none else if c.toNat < 128 then some (n * 128 + c.toNat % 128, t) else readP (n * 128 + c.toNat % 128) t
theorem readP_nil (n : Nat) : readP n [] = none := by rw [readP]
theorem readP_none {n : Nat} {c : UInt8} {t : Bytes} (h : n = 0 ∧ c.toNat = 128 ∨ 144115188075855872 ≤ n) : readP n (c :: t) = none := by rw [readP, if_pos h]
theorem readP_last {n : Nat} {c : UInt8} {t : Bytes} (h : ¬ (n = 0 ∧ c.toNat = 128 ∨ 144115188075855872 ≤ n)) (hc : c.toNat < 128) : readP n (c :: t) = some (n * 128 + c.toNat % 128, t) := by rw [readP, if_neg h, if_pos hc]
theorem readP_more {n : Nat} {c : UInt8} {t : Bytes} (h : ¬ (n = 0 ∧ c.toNat = 128 ∨ 144115188075855872 ≤ n)) (hc : ¬ c.toNat < 128) : readP n (c :: t) = readP (n * 128 + c.toNat % 128) t := by rw [readP, if_neg h, if_neg hc]
def readB (s : Bytes) : Option (Nat × Bytes) := readP 0 s
theorem u8_nat {k : Nat} (h : k < 256) : (UInt8.ofNat k).toNat = k := by simp; omega
theorem u8_of_nat (c : UInt8) : UInt8.ofNat c.toNat = c := by simp
theorem readP_ahead (m : Nat) : ∀ (t : Bytes), 0 < m → m < 144115188075855872 → readP 0 (aheadB m ++ t) = readP m t := by
  induction m using Nat.strongRecOn with
  | _ m ih =>
    intro t h0 h1
    rcases Nat.lt_or_ge m 128 with h | h
    · rw [aheadB_small h, List.singleton_append, readP_more (by rw [u8_nat (by omega)]; omega) (by rw [u8_nat (by omega)]; omega), u8_nat (by omega)]
      congr 1; omega
    · rw [aheadB_more (by omega), List.append_assoc, ih (m / 128) (by omega) _ (by omega) (by omega), List.singleton_append, readP_more (by rw [u8_nat (by omega)]; omega) (by rw [u8_nat (by omega)]; omega), u8_nat (by omega)]
      congr 1; omega
theorem read_num (n : Nat) (r : Bytes) (h : n < 18446744073709551616) : readB (numB n ++ r) = some (n, r) := by
  unfold readB
  rcases Nat.lt_or_ge n 128 with h1 | h1
  · rw [numB_small h1, List.singleton_append, readP_last (by rw [u8_nat (by omega)]; omega) (by rw [u8_nat (by omega)]; omega), u8_nat (by omega)]
    congr 2; omega
  · rw [numB_more (by omega), List.append_assoc, readP_ahead _ _ (by omega) (by omega), List.singleton_append, readP_last (by rw [u8_nat (by omega)]; omega) (by rw [u8_nat (by omega)]; omega), u8_nat (by omega)]
    congr 2; omega
theorem readP_num (s : Bytes) : ∀ (m n : Nat) (r : Bytes), 0 < m → readP m s = some (n, r) → aheadB m ++ s = numB n ++ r ∧ n < 18446744073709551616 := by
  induction s with
  | nil => intro m n r _ h; rw [readP_nil] at h; cases h
  | cons c t ih =>
    intro m n r hm h
    have hc := c.toNat_lt
    by_cases h1 : m = 0 ∧ c.toNat = 128 ∨ 144115188075855872 ≤ m
    · rw [readP_none h1] at h; cases h
    · by_cases h2 : c.toNat < 128
      · rw [readP_last h1 h2] at h
        simp only [Option.some.injEq, Prod.mk.injEq] at h
        obtain ⟨rfl, rfl⟩ := h
        rw [numB_more (by omega), show (m * 128 + c.toNat % 128) / 128 = m by omega, show (m * 128 + c.toNat % 128) % 128 = c.toNat by omega, u8_of_nat, List.append_assoc]
        exact ⟨rfl, by omega⟩
      · rw [readP_more h1 h2] at h
        have := ih _ _ _ (by omega) h
        rw [aheadB_more (by omega), show (m * 128 + c.toNat % 128) / 128 = m by omega, show (m * 128 + c.toNat % 128) % 128 + 128 = c.toNat by omega, u8_of_nat, List.append_assoc] at this
        exact this
theorem num_read {s : Bytes} {n : Nat} {r : Bytes} (h : readB s = some (n, r)) : s = numB n ++ r ∧ n < 18446744073709551616 := by
  unfold readB at h
  cases s with
  | nil => rw [readP_nil] at h; cases h
  | cons c t =>
    have hc := c.toNat_lt
    by_cases h1 : 0 = 0 ∧ c.toNat = 128 ∨ 144115188075855872 ≤ 0
    · rw [readP_none h1] at h; cases h
    · by_cases h2 : c.toNat < 128
      · rw [readP_last h1 h2] at h
        simp only [Option.some.injEq, Prod.mk.injEq] at h
        obtain ⟨rfl, rfl⟩ := h
        rw [numB_small (by omega), show 0 * 128 + c.toNat % 128 = c.toNat by omega, u8_of_nat]
        exact ⟨rfl, by omega⟩
      · rw [readP_more h1 h2] at h
        have := readP_num t _ _ _ (by omega) h
        rw [aheadB_small (by omega), show 0 * 128 + c.toNat % 128 + 128 = c.toNat by omega, u8_of_nat] at this
        exact this
theorem aheadB_length (j : Nat) : ∀ m, m < 128 ^ (j + 1) → 1 ≤ (aheadB m).length ∧ (aheadB m).length ≤ j + 1 := by
  induction j with
  | zero => intro m h; rw [aheadB_small (by omega)]; simp
  | succ j ih =>
    intro m h
    rcases Nat.lt_or_ge m 128 with h1 | h1
    · rw [aheadB_small h1]; simp
    · have hp : 128 ^ (j + 1 + 1) = 128 ^ (j + 1) * 128 := Nat.pow_succ ..
      have := ih (m / 128) (by omega)
      rw [aheadB_more (by omega), List.length_append]; simp; omega
theorem numB_length {n : Nat} (h : n < 18446744073709551616) : 1 ≤ (numB n).length ∧ (numB n).length ≤ 10 := by
  rcases Nat.lt_or_ge n 128 with h1 | h1
  · rw [numB_small h1]; simp
  · have := aheadB_length 8 (n / 128) (by have : (128 : Nat) ^ (8 + 1) = 9223372036854775808 := by decide
                                          omega)
    rw [numB_more (by omega), List.length_append]; simp; omega
theorem aheadB_hi (m : Nat) : ∀ c ∈ aheadB m, 128 ≤ c.toNat := by
  induction m using Nat.strongRecOn with
  | _ m ih =>
    intro c hc
    rcases Nat.lt_or_ge m 128 with h | h
    · rw [aheadB_small h, List.mem_singleton] at hc
      rw [hc, u8_nat (by omega)]; omega
    · rw [aheadB_more (by omega), List.mem_append, List.mem_singleton] at hc
      rcases hc with hc | hc
      · exact ih _ (by omega) c hc
      · rw [hc, u8_nat (by omega)]; omega
/-- A number's digits. -/
def valB (l : Bytes) : Nat := l.foldl (fun n c => n * 128 + c.toNat % 128) 0
theorem valB_snoc (l : Bytes) (c : UInt8) : valB (l ++ [c]) = valB l * 128 + c.toNat % 128 := by unfold valB; rw [List.foldl_append]; rfl
theorem valB_ahead (m : Nat) : valB (aheadB m) = m := by
  induction m using Nat.strongRecOn with
  | _ m ih =>
    rcases Nat.lt_or_ge m 128 with h | h
    · rw [aheadB_small h, ← List.nil_append [_], valB_snoc, u8_nat (by omega)]; show 0 * 128 + _ = _; omega
    · rw [aheadB_more (by omega), valB_snoc, ih _ (by omega), u8_nat (by omega)]; omega
theorem valB_num (n : Nat) : valB (numB n) = n := by
  rcases Nat.lt_or_ge n 128 with h | h
  · rw [numB_small h, ← List.nil_append [_], valB_snoc, u8_nat (by omega)]; show 0 * 128 + _ = _; omega
  · rw [numB_more (by omega), valB_snoc, valB_ahead, u8_nat (by omega)]; omega

def textB (s : Bytes) : Bytes := numB s.length ++ s
def cutB (s : Bytes) : Option (Bytes × Bytes) := match readB s with
  | none => none
  | some (n, r) => if r.length < n then none else some (r.take n, r.drop n)
theorem cut_text (s r : Bytes) (h : s.length < 18446744073709551616) : cutB (textB s ++ r) = some (s, r) := by
  unfold cutB textB
  rw [List.append_assoc, read_num _ _ h]
  show (if (s ++ r).length < s.length then none else some ((s ++ r).take s.length, (s ++ r).drop s.length)) = _
  rw [if_neg (by simp), List.take_left' rfl, List.drop_left' rfl]
theorem text_cut {s a r : Bytes} (h : cutB s = some (a, r)) : s = textB a ++ r ∧ a.length < 18446744073709551616 := by
  unfold cutB at h
  cases hr : readB s with
  | none => rw [hr] at h; cases h
  | some p =>
    obtain ⟨n, t⟩ := p
    rw [hr] at h
    obtain ⟨h1, h2⟩ := num_read hr
    by_cases hn : t.length < n
    · simp only [if_pos hn] at h; cases h
    · simp only [if_neg hn, Option.some.injEq, Prod.mk.injEq] at h
      obtain ⟨rfl, rfl⟩ := h
      have hl : (t.take n).length = n := by simp; omega
      unfold textB
      rw [hl, List.append_assoc, List.take_append_drop]
      exact ⟨h1, h2⟩
/-- A hash of so many bytes; zeros where there are none. -/
def toH (l : Bytes) : Hash := if h : l.length = 32 then hashOf l h else zeroHash
theorem hb_hashOf (l : Bytes) (h : l.length = 32) : hb (hashOf l h) = l := by unfold hb hashOf; simp
theorem hb_toH {l : Bytes} (h : l.length = 32) : hb (toH l) = l := by unfold toH; rw [dif_pos h, hb_hashOf]
theorem hb_inj {a b : Hash} (h : hb a = hb b) : a = b := toList_inj.1 h
theorem toH_hb (h : Hash) : toH (hb h) = h := hb_inj (hb_toH (hb_length h))
def unhashB (s : Bytes) : Option (Hash × Bytes) := if s.length < 32 then none else some (toH (s.take 32), s.drop 32)
theorem unhash_hash (h : Hash) (r : Bytes) : unhashB (hb h ++ r) = some (h, r) := by
  unfold unhashB
  rw [if_neg (by simp [hb_length]), List.take_left' (hb_length h), List.drop_left' (hb_length h), toH_hb]
theorem hash_unhash {s r : Bytes} {h : Hash} (e : unhashB s = some (h, r)) : s = hb h ++ r := by
  unfold unhashB at e
  by_cases hs : s.length < 32
  · rw [if_pos hs] at e; cases e
  · rw [if_neg hs] at e
    simp only [Option.some.injEq, Prod.mk.injEq] at e
    obtain ⟨rfl, rfl⟩ := e
    rw [hb_toH (by simp; omega), List.take_append_drop]
def hashesB (l : List Hash) : Bytes := if 64 < l.length then [] else numB l.length ++ l.flatMap hb
def takeH : Nat → Bytes → Option (List Hash × Bytes)
  | 0, s => some ([], s)
  | n + 1, s => match unhashB s with
    | none => none
    | some (h, r) => match takeH n r with
      | none => none
      | some (l, t) => some (h :: l, t)
def unhashesB (s : Bytes) : Option (List Hash × Bytes) := match readB s with
  | none => none
  | some (n, r) => if 64 < n then none else takeH n r
theorem takeH_flat (l : List Hash) (r : Bytes) : takeH l.length (l.flatMap hb ++ r) = some (l, r) := by
  induction l with
  | nil => rfl
  | cons h l ih => rw [List.length_cons, takeH, List.flatMap_cons, List.append_assoc, unhash_hash]; simp only [ih]
theorem flat_takeH : ∀ (n : Nat) (s : Bytes) (l : List Hash) (r : Bytes), takeH n s = some (l, r) → s = l.flatMap hb ++ r ∧ l.length = n
  | 0, s, l, r, h => by
    rw [takeH] at h
    simp only [Option.some.injEq, Prod.mk.injEq] at h
    obtain ⟨rfl, rfl⟩ := h
    exact ⟨rfl, rfl⟩
  | n + 1, s, l, r, h => by
    rw [takeH] at h
    cases hu : unhashB s with
    | none => rw [hu] at h; cases h
    | some p =>
      obtain ⟨x, t⟩ := p
      rw [hu] at h
      simp only at h
      cases ht : takeH n t with
      | none => rw [ht] at h; cases h
      | some q =>
        obtain ⟨m, z⟩ := q
        rw [ht] at h
        simp only [Option.some.injEq, Prod.mk.injEq] at h
        obtain ⟨rfl, rfl⟩ := h
        obtain ⟨e1, e2⟩ := flat_takeH n t m z ht
        refine ⟨?_, by rw [List.length_cons, e2]⟩
        rw [hash_unhash hu, e1, List.flatMap_cons, List.append_assoc]
theorem unhashes_hashes (l : List Hash) (r : Bytes) (h : l.length ≤ 64) : unhashesB (hashesB l ++ r) = some (l, r) := by
  unfold unhashesB hashesB
  rw [if_neg (by omega), List.append_assoc, read_num _ _ (by omega)]
  show (if 64 < l.length then none else takeH l.length _) = _
  rw [if_neg (by omega), takeH_flat]
theorem hashes_unhashes {s r : Bytes} {l : List Hash} (h : unhashesB s = some (l, r)) : s = hashesB l ++ r ∧ l.length ≤ 64 := by
  unfold unhashesB at h
  cases hr : readB s with
  | none => rw [hr] at h; cases h
  | some p =>
    obtain ⟨n, t⟩ := p
    rw [hr] at h
    simp only at h
    by_cases hn : 64 < n
    · rw [if_pos hn] at h; cases h
    · rw [if_neg hn] at h
      obtain ⟨e1, e2⟩ := flat_takeH _ _ _ _ h
      unfold hashesB
      rw [if_neg (by omega), List.append_assoc, ← e1, e2]
      exact ⟨(num_read hr).1, by omega⟩
theorem flatHb_length (l : List Hash) : (l.flatMap hb).length = 32 * l.length := by
  induction l with
  | nil => rfl
  | cons h l ih => rw [List.flatMap_cons, List.length_append, hb_length, ih, List.length_cons]; omega
theorem hashesB_length (l : List Hash) (h : l.length ≤ 64) : (hashesB l).length ≤ 10 + 32 * l.length := by
  unfold hashesB
  rw [if_neg (by omega), List.length_append, flatHb_length]
  have := numB_length (n := l.length) (by omega)
  omega
attribute [irreducible] numB readP readB cutB unhashB hashesB takeH unhashesB valB toH textB
end Go.Proofs.YtahdekllphehkaaDoor

namespace Go.Proofs.YtahdekllphehkaaDoor
open Go.WL Go.Spec

def secretN (seed : Bytes) (index k : Nat) : Hash := sha ([2] ++ textB seed ++ putB (UInt64.ofNat index) 4 ++ putB (UInt64.ofNat k) 2)
def secretL (seed : Bytes) (index i bit : Int) : Hash :=
  if index < 0 ∨ 2147483648 ≤ index ∨ i < 0 ∨ 256 ≤ i ∨ bit < 0 ∨ 1 < bit then zeroHash else secretN seed index.toNat (2 * i.toNat + bit.toNat)
def shownL (b : Bytes) : Hash := sha ([3] ++ b)
def pubL (seed : Bytes) (index k : Nat) : Hash := shownL (hb (secretN seed index k))
def publicL (seed : Bytes) (index : Nat) : List Hash := (List.range 512).map (pubL seed index)
def keyLeaf (l : List Hash) : Hash := if l.length = 512 then sha ([4] ++ l.flatMap hb) else zeroHash
/-- A bit of bytes. -/
def bitB (s : Bytes) (i : Nat) : Nat := (s.getD (i / 8) 0).toNat / 2 ^ (7 - i % 8) % 2
theorem bitB_lt (s : Bytes) (i : Nat) : bitB s i < 2 := Nat.mod_lt _ (by decide)
def signA (seed : Bytes) (index : Nat) (d : Bytes) (n : Nat) : Bytes := (List.range n).flatMap fun i => hb (secretN seed index (2 * i + bitB d i))
def signO (seed : Bytes) (index : Nat) (d : Bytes) (n : Nat) : Bytes := (List.range n).flatMap fun i => hb (pubL seed index (2 * i + 1 - bitB d i))
def signB (seed : Bytes) (index : Nat) (d : Bytes) : Bytes := signA seed index d 256 ++ signO seed index d 256
def cut32 (s : Bytes) (i : Nat) : Bytes := (s.drop (32 * i)).take 32
def recK (sig d : Bytes) (k : Nat) : Hash := if k % 2 = bitB d (k / 2) then shownL (cut32 sig (k / 2)) else toH (cut32 sig (256 + k / 2))
def recL (sig d : Bytes) : List Hash := (List.range 512).map (recK sig d)

theorem flatMap_range_length (f : Nat → Hash) (n : Nat) : ((List.range n).flatMap fun i => hb (f i)).length = 32 * n := by
  rw [show ((List.range n).flatMap fun i => hb (f i)) = ((List.range n).map f).flatMap hb by rw [List.flatMap_map], flatHb_length, List.length_map, List.length_range]
theorem cut32_flat (f : Nat → Hash) (n : Nat) : ∀ (i : Nat) (r : Bytes), i < n → cut32 (((List.range n).flatMap fun i => hb (f i)) ++ r) i = hb (f i) := by
  induction n with
  | zero => intro i r h; omega
  | succ n ih =>
    intro i r h
    rw [List.range_succ, List.flatMap_append, List.flatMap_singleton, List.append_assoc]
    rcases Nat.lt_or_ge i n with h1 | h1
    · exact ih i _ h1
    · have : i = n := by omega
      subst this
      unfold cut32
      rw [List.drop_left' (flatMap_range_length f i), List.take_left' (hb_length _)]
theorem signA_length (seed : Bytes) (index : Nat) (d : Bytes) (n : Nat) : (signA seed index d n).length = 32 * n := flatMap_range_length _ n
theorem signO_length (seed : Bytes) (index : Nat) (d : Bytes) (n : Nat) : (signO seed index d n).length = 32 * n := flatMap_range_length _ n
theorem signB_length (seed : Bytes) (index : Nat) (d : Bytes) : (signB seed index d).length = 16384 := by unfold signB; rw [List.length_append, signA_length, signO_length]
theorem cut_signA (seed : Bytes) (index : Nat) (d : Bytes) (i : Nat) (h : i < 256) : cut32 (signB seed index d) i = hb (secretN seed index (2 * i + bitB d i)) := cut32_flat (fun i => secretN seed index (2 * i + bitB d i)) 256 i _ h
theorem cut_signO (seed : Bytes) (index : Nat) (d : Bytes) (i : Nat) (h : i < 256) : cut32 (signB seed index d) (256 + i) = hb (pubL seed index (2 * i + 1 - bitB d i)) := by
  have e : cut32 (signB seed index d) (256 + i) = cut32 (signO seed index d 256 ++ []) i := by
    unfold cut32 signB
    rw [show 32 * (256 + i) = 32 * 256 + 32 * i by omega, ← List.drop_drop, List.drop_left' (signA_length _ _ _ _), List.append_nil]
  rw [e]
  exact cut32_flat (fun i => pubL seed index (2 * i + 1 - bitB d i)) 256 i _ h
theorem rec_sign (seed : Bytes) (index : Nat) (d : Bytes) : recL (signB seed index d) d = publicL seed index := by
  unfold recL publicL
  refine List.map_congr_left fun k hk => ?_
  have hk : k < 512 := List.mem_range.1 hk
  have hb2 := bitB_lt d (k / 2)
  unfold recK
  by_cases h : k % 2 = bitB d (k / 2)
  · rw [if_pos h, cut_signA _ _ _ _ (by omega), ← h, show 2 * (k / 2) + k % 2 = k by omega]
    rfl
  · rw [if_neg h, cut_signO _ _ _ _ (by omega), toH_hb, show 2 * (k / 2) + 1 - bitB d (k / 2) = k by omega]
theorem publicL_length (seed : Bytes) (index : Nat) : (publicL seed index).length = 512 := by simp [publicL]
theorem recL_length (sig d : Bytes) : (recL sig d).length = 512 := by simp [recL]
theorem secretL_in (seed : Bytes) (index i bit : Nat) (h1 : index < 2147483648) (h2 : i < 256) (h3 : bit < 2) : secretL seed (index : Int) (i : Int) (bit : Int) = secretN seed index (2 * i + bit) := by
  unfold secretL
  rw [if_neg (by omega)]
  simp
attribute [irreducible] secretN secretL shownL pubL publicL keyLeaf bitB signA signO signB cut32 recK recL
end Go.Proofs.YtahdekllphehkaaDoor

namespace Go.Proofs.YtahdekllphehkaaDoor
open Go.WL Go.Spec

structure Sg where
  size : Int
  root : Hash
  index : Int
  sig : Bytes
  path : List Hash
def Sg.none : Sg := ⟨0, zeroHash, 0, [], []⟩
def Sg.valid (s : Sg) : Prop := 0 ≤ s.size ∧ s.size ≤ 4096 ∧ 0 ≤ s.index ∧ s.index < 8 ∧ s.sig.length = 16384 ∧ s.path.length = 3
instance (s : Sg) : Decidable s.valid := by unfold Sg.valid; exact inferInstance
def headB (s : Sg) : Bytes := numB s.size.toNat ++ hb s.root ++ numB s.index.toNat ++ textB s.sig ++ hashesB s.path
def digestL (size : Int) (root : Hash) : Hash := sha ([5] ++ putB (UInt64.ofNat size.toNat) 8 ++ hb root)
/-- What stands there. -/
def fieldsB (t : Bytes) : Option (Nat × Hash × Nat × Bytes × List Hash × Bytes) :=
  match readB t with
  | .none => .none
  | some (n, r) => match unhashB r with
    | .none => .none
    | some (h, r) => match readB r with
      | .none => .none
      | some (i, r) => match cutB r with
        | .none => .none
        | some (s, r) => match unhashesB r with
          | .none => .none
          | some (p, r) => some (n, h, i, s, p, r)
def small (n : Nat) : Int := (min n 1073741824 : Nat)
def getS (t : Bytes) : Option Sg := match fieldsB t with
  | .none => .none
  | some (n, h, i, s, p, r) => if r = [] ∧ Sg.valid ⟨small n, h, small i, s, p⟩ then some ⟨small n, h, small i, s, p⟩ else .none
theorem small_of {n : Nat} (h : small n ≤ 4096) : small n = n := by unfold small at *; omega
theorem fields_put {n i : Nat} {h : Hash} {s : Bytes} {p : List Hash} {r : Bytes} (h1 : n < 18446744073709551616) (h2 : i < 18446744073709551616) (h3 : s.length < 18446744073709551616) (h4 : p.length ≤ 64) :
    fieldsB (numB n ++ hb h ++ numB i ++ textB s ++ hashesB p ++ r) = some (n, h, i, s, p, r) := by
  unfold fieldsB
  simp only [List.append_assoc]
  rw [read_num _ _ h1]
  simp only [unhash_hash, read_num _ _ h2, cut_text _ _ h3, unhashes_hashes _ _ h4]
theorem put_fields {t : Bytes} {n i : Nat} {h : Hash} {s : Bytes} {p : List Hash} {r : Bytes} (e : fieldsB t = some (n, h, i, s, p, r)) :
    t = numB n ++ hb h ++ numB i ++ textB s ++ hashesB p ++ r ∧ n < 18446744073709551616 ∧ i < 18446744073709551616 ∧ p.length ≤ 64 := by
  unfold fieldsB at e
  cases e1 : readB t with
  | none => rw [e1] at e; cases e
  | some x =>
    obtain ⟨n', r1⟩ := x
    rw [e1] at e
    simp only at e
    cases e2 : unhashB r1 with
    | none => rw [e2] at e; cases e
    | some x =>
      obtain ⟨h', r2⟩ := x
      rw [e2] at e
      simp only at e
      cases e3 : readB r2 with
      | none => rw [e3] at e; cases e
      | some x =>
        obtain ⟨i', r3⟩ := x
        rw [e3] at e
        simp only at e
        cases e4 : cutB r3 with
        | none => rw [e4] at e; cases e
        | some x =>
          obtain ⟨s', r4⟩ := x
          rw [e4] at e
          simp only at e
          cases e5 : unhashesB r4 with
          | none => rw [e5] at e; cases e
          | some x =>
            obtain ⟨p', r5⟩ := x
            rw [e5] at e
            simp only [Option.some.injEq, Prod.mk.injEq] at e
            obtain ⟨rfl, rfl, rfl, rfl, rfl, rfl⟩ := e
            obtain ⟨a1, b1⟩ := num_read e1
            have a2 := hash_unhash e2
            obtain ⟨a3, b3⟩ := num_read e3
            obtain ⟨a4, b4⟩ := text_cut e4
            obtain ⟨a5, b5⟩ := hashes_unhashes e5
            refine ⟨?_, b1, b3, b5⟩
            rw [a1, a2, a3, a4, a5]
            simp only [List.append_assoc]
theorem getS_iff {t : Bytes} {s : Sg} : getS t = some s ↔ s.valid ∧ t = headB s := by
  constructor
  · intro h
    unfold getS at h
    cases e : fieldsB t with
    | none => rw [e] at h; cases h
    | some x =>
      obtain ⟨n, g, i, sg, p, r⟩ := x
      rw [e] at h
      simp only at h
      by_cases hc : r = [] ∧ Sg.valid ⟨small n, g, small i, sg, p⟩
      · rw [if_pos hc] at h
        simp only [Option.some.injEq] at h
        subst h
        obtain ⟨rfl, hv⟩ := hc
        refine ⟨hv, ?_⟩
        obtain ⟨a, _, _, _⟩ := put_fields e
        obtain ⟨v1, v2, v3, v4, _, _⟩ := hv
        simp only at v1 v2 v3 v4
        have e1 := small_of v2
        have e2 : small i = i := small_of (by omega)
        rw [a]
        unfold headB
        simp only [e1, e2, Int.toNat_natCast, List.append_nil]
      · rw [if_neg hc] at h; cases h
  · rintro ⟨hv, rfl⟩
    obtain ⟨size, root, index, sig, path⟩ := s
    obtain ⟨v1, v2, v3, v4, v5, v6⟩ := id hv
    simp only at v1 v2 v3 v4 v5 v6
    have := fields_put (n := size.toNat) (i := index.toNat) (h := root) (s := sig) (p := path) (r := []) (by omega) (by omega) (by omega) (by omega)
    rw [List.append_nil] at this
    unfold getS headB
    simp only [this]
    have e1 : small size.toNat = size := by unfold small; omega
    have e2 : small index.toNat = index := by unfold small; omega
    rw [e1, e2, if_pos ⟨trivial, hv⟩]
theorem headB_length {s : Sg} (h : s.valid) : 16384 < (headB s).length ∧ (headB s).length ≤ 16600 := by
  obtain ⟨v1, v2, v3, v4, v5, v6⟩ := h
  have n1 := numB_length (n := s.size.toNat) (by omega)
  have n2 := numB_length (n := s.index.toNat) (by omega)
  have n3 := numB_length (n := s.sig.length) (by omega)
  have n4 := hashesB_length s.path (by omega)
  have e : textB s.sig = numB s.sig.length ++ s.sig := by unfold textB; rfl
  unfold headB
  rw [e]
  simp only [List.length_append, hb_length]
  omega
/-- Bytes of a head are never the beginning of others'. -/
theorem headB_pre {s s' : Sg} {r : Bytes} (h : s.valid) (h' : s'.valid) (e : headB s ++ r = headB s') : r = [] := by
  obtain ⟨v1, v2, v3, v4, v5, v6⟩ := h
  obtain ⟨w1, w2, w3, w4, w5, w6⟩ := h'
  have a := fields_put (n := s.size.toNat) (i := s.index.toNat) (h := s.root) (s := s.sig) (p := s.path) (r := r) (by omega) (by omega) (by omega) (by omega)
  have b := fields_put (n := s'.size.toNat) (i := s'.index.toNat) (h := s'.root) (s := s'.sig) (p := s'.path) (r := []) (by omega) (by omega) (by omega) (by omega)
  rw [List.append_nil] at b
  unfold headB at e
  rw [e, b] at a
  simp only [Option.some.injEq, Prod.mk.injEq] at a
  exact a.2.2.2.2.2.symm
attribute [irreducible] headB digestL fieldsB small getS
end Go.Proofs.YtahdekllphehkaaDoor

namespace Go.Proofs.YtahdekllphehkaaDoor
open Go.WL Go.Spec

/-- Is it a signature of a digest by a key? -/
def sealOK (key digest : Hash) (index : Int) (sig : Bytes) (path : List Hash) : Prop :=
  sig.length = 16384 ∧ comeR (keyLeaf (recL sig (hb digest))) index.toNat 8 path.reverse = some key
instance (key digest : Hash) (index : Int) (sig : Bytes) (path : List Hash) : Decidable (sealOK key digest index sig path) := by unfold sealOK; exact inferInstance
def verifyL (key digest : Hash) (index : Int) (sig : Bytes) (path : List Hash) : Int := if index < 0 ∨ 8 ≤ index then 2 else if sealOK key digest index sig path then 0 else 81
def headCheck (key : Hash) (s : Sg) : Int := if s.valid then (if sealOK key (digestL s.size s.root) s.index s.sig s.path then 0 else 81) else 2
def holdsL (p : Prop) [Decidable p] : Int := if p then 0 else 80
def prfCheck (m n : Int) (older newer : Hash) (proof : List Hash) : Int :=
  if n < 0 ∨ 4096 < n ∨ m < 0 ∨ n < m then 2
  else if m = 0 then holdsL (proof = [] ∧ older = sha [] ∧ (0 < n ∨ newer = older))
  else if m = n then holdsL (proof = [] ∧ older = newer)
  else holdsL (saysR older m.toNat n.toNat true proof.reverse = some (older, newer))

structure Ev where
  kind : Int
  older : Sg
  newer : Sg
  root : Hash
  proof : List Hash
def Ev.none : Ev := ⟨0, Sg.none, Sg.none, zeroHash, []⟩
/-- How a head stands to another one. -/
def ordL (a b : Sg) : Int := if a.size < b.size then 0 else if b.size < a.size then 2 else if a.root = b.root then 1 else 3
def Ev.shape (e : Ev) : Prop := e.older.valid ∧ e.newer.valid ∧ e.proof.length ≤ 64 ∧ ((e.kind = 1 ∧ ordL e.older e.newer = 3 ∧ e.root = zeroHash ∧ e.proof = []) ∨ (e.kind = 2 ∧ ordL e.older e.newer = 0 ∧ e.root ≠ e.older.root))
instance (e : Ev) : Decidable e.shape := by unfold Ev.shape; exact inferInstance
def evB (e : Ev) : Bytes := numB e.kind.toNat ++ textB (headB e.older) ++ textB (headB e.newer) ++ (if e.kind = 2 then hb e.root ++ hashesB e.proof else [])
def evCheck (key : Hash) (e : Ev) : Int :=
  if ¬ e.shape then 2 else if headCheck key e.older ≠ 0 ∨ headCheck key e.newer ≠ 0 then 81
  else if e.kind = 2 ∧ prfCheck e.older.size e.newer.size e.root e.newer.root e.proof ≠ 0 then 80 else 0
/-- A signed head with its length ahead. -/
def signedB (s : Bytes) : Option (Sg × Bytes) := match cutB s with
  | .none => .none
  | some (t, r) => match getS t with
    | .none => .none
    | some x => some (x, r)
def tailB (kind : Nat) (r : Bytes) : Option (Hash × List Hash × Bytes) :=
  if kind = 2 then (match unhashB r with
    | .none => .none
    | some (h, r) => match unhashesB r with
      | .none => .none
      | some (p, r) => some (h, p, r))
  else some (zeroHash, [], r)
def getE (s : Bytes) : Option Ev := match readB s with
  | .none => .none
  | some (k, r) => match signedB r with
    | .none => .none
    | some (a, r) => match signedB r with
      | .none => .none
      | some (b, r) => if k ≠ 1 ∧ k ≠ 2 then .none else match tailB k r with
        | .none => .none
        | some (h, p, r) => if r = [] ∧ Ev.shape ⟨k, a, b, h, p⟩ then some ⟨k, a, b, h, p⟩ else .none
theorem signed_put {s : Sg} (h : s.valid) (r : Bytes) : signedB (textB (headB s) ++ r) = some (s, r) := by
  have hl := headB_length h
  unfold signedB
  rw [cut_text _ _ (by omega)]
  simp only [getS_iff.2 ⟨h, rfl⟩]
theorem put_signed {t r : Bytes} {s : Sg} (h : signedB t = some (s, r)) : s.valid ∧ t = textB (headB s) ++ r := by
  unfold signedB at h
  cases e : cutB t with
  | none => rw [e] at h; cases h
  | some x =>
    obtain ⟨a, r'⟩ := x
    rw [e] at h
    simp only at h
    cases e2 : getS a with
    | none => rw [e2] at h; cases h
    | some y =>
      rw [e2] at h
      simp only [Option.some.injEq, Prod.mk.injEq] at h
      obtain ⟨rfl, rfl⟩ := h
      obtain ⟨h1, h2⟩ := getS_iff.1 e2
      exact ⟨h1, by rw [← h2]; exact (text_cut e).1⟩
theorem shape_kind {e : Ev} (h : e.shape) : e.kind = 1 ∨ e.kind = 2 := by
  obtain ⟨_, _, _, h⟩ := h
  rcases h with h | h
  · exact .inl h.1
  · exact .inr h.1
theorem getE_iff {t : Bytes} {e : Ev} : getE t = some e ↔ e.shape ∧ t = evB e := by
  constructor
  · intro h
    unfold getE at h
    cases e1 : readB t with
    | none => rw [e1] at h; cases h
    | some x =>
      obtain ⟨k, r1⟩ := x
      rw [e1] at h
      simp only at h
      cases e2 : signedB r1 with
      | none => rw [e2] at h; cases h
      | some x =>
        obtain ⟨a, r2⟩ := x
        rw [e2] at h
        simp only at h
        cases e3 : signedB r2 with
        | none => rw [e3] at h; cases h
        | some x =>
          obtain ⟨b, r3⟩ := x
          rw [e3] at h
          simp only at h
          by_cases hk : k ≠ 1 ∧ k ≠ 2
          · rw [if_pos hk] at h; cases h
          · rw [if_neg hk] at h
            cases e4 : tailB k r3 with
            | none => rw [e4] at h; cases h
            | some x =>
              obtain ⟨g, p, r4⟩ := x
              rw [e4] at h
              simp only at h
              by_cases hc : r4 = [] ∧ Ev.shape ⟨k, a, b, g, p⟩
              · rw [if_pos hc] at h
                simp only [Option.some.injEq] at h
                subst h
                obtain ⟨rfl, hs⟩ := hc
                refine ⟨hs, ?_⟩
                obtain ⟨a1, _⟩ := num_read e1
                obtain ⟨_, a2⟩ := put_signed e2
                obtain ⟨_, a3⟩ := put_signed e3
                unfold tailB at e4
                unfold evB
                simp only [Int.toNat_natCast]
                by_cases hk2 : k = 2
                · rw [if_pos hk2] at e4
                  rw [if_pos (by omega)]
                  cases e5 : unhashB r3 with
                  | none => rw [e5] at e4; cases e4
                  | some x =>
                    obtain ⟨g', r5⟩ := x
                    rw [e5] at e4
                    simp only at e4
                    cases e6 : unhashesB r5 with
                    | none => rw [e6] at e4; cases e4
                    | some x =>
                      obtain ⟨p', r6⟩ := x
                      rw [e6] at e4
                      simp only [Option.some.injEq, Prod.mk.injEq] at e4
                      obtain ⟨rfl, rfl, rfl⟩ := e4
                      have a5 := hash_unhash e5
                      obtain ⟨a6, _⟩ := hashes_unhashes e6
                      rw [a1, a2, a3, a5, a6]
                      simp only [List.append_assoc, List.append_nil]
                · rw [if_neg hk2] at e4
                  rw [if_neg (by omega)]
                  simp only [Option.some.injEq, Prod.mk.injEq] at e4
                  obtain ⟨rfl, rfl, rfl⟩ := e4
                  rw [a1, a2, a3]
                  simp only [List.append_assoc, List.append_nil]
              · rw [if_neg hc] at h; cases h
  · rintro ⟨hs, rfl⟩
    obtain ⟨kind, older, newer, root, proof⟩ := e
    have hk := shape_kind hs
    obtain ⟨h1, h2, h3, h4⟩ := id hs
    simp only at hk h1 h2 h3 h4
    unfold getE evB
    simp only [List.append_assoc]
    rw [read_num _ _ (by omega)]
    simp only [signed_put h1, signed_put h2]
    rw [if_neg (by omega)]
    have ek : ((kind.toNat : Nat) : Int) = kind := by omega
    rcases h4 with ⟨k1, k2, k3, k4⟩ | ⟨k1, k2, k3⟩
    · subst k3
      subst k4
      have n1 : ¬ kind = 2 := by omega
      have n2 : ¬ kind.toNat = 2 := by omega
      unfold tailB
      rw [if_neg n1, if_neg n2]
      simp only [ek]
      rw [if_pos ⟨trivial, hs⟩]
    · have n2 : kind.toNat = 2 := by omega
      unfold tailB
      rw [if_pos k1, if_pos n2, unhash_hash]
      have := unhashes_hashes proof [] h3
      rw [List.append_nil] at this
      simp only [this, ek]
      rw [if_pos ⟨trivial, hs⟩]
theorem evB_length {e : Ev} (h : e.shape) : 0 < (evB e).length ∧ (evB e).length ≤ 40000 := by
  have hk := shape_kind h
  obtain ⟨h1, h2, h3, _⟩ := h
  have l1 := headB_length h1
  have l2 := headB_length h2
  have n0 := numB_length (n := e.kind.toNat) (by omega)
  have n1 := numB_length (n := (headB e.older).length) (by omega)
  have n2 := numB_length (n := (headB e.newer).length) (by omega)
  have l3 := hashesB_length e.proof h3
  have t : ∀ s, textB s = numB s.length ++ s := fun s => by unfold textB; rfl
  unfold evB
  rw [t, t]
  by_cases h2 : e.kind = 2
  · rw [if_pos h2]; simp only [List.length_append, hb_length]; omega
  · rw [if_neg h2]; simp only [List.length_append, List.length_nil]; omega
/-- Bytes of evidence are never the beginning of others'. -/
theorem evB_pre {e e' : Ev} {r : Bytes} (h : e.shape) (h' : e'.shape) (he : evB e ++ r = evB e') : r = [] := by
  have hk := shape_kind h
  have hk' := shape_kind h'
  obtain ⟨v1, v2, v3, v4⟩ := h
  obtain ⟨w1, w2, w3, w4⟩ := h'
  unfold evB at he
  simp only [List.append_assoc] at he
  have a1 := read_num e.kind.toNat (textB (headB e.older) ++ (textB (headB e.newer) ++ ((if e.kind = 2 then hb e.root ++ hashesB e.proof else []) ++ r))) (by omega)
  rw [he, read_num _ _ (by omega)] at a1
  simp only [Option.some.injEq, Prod.mk.injEq] at a1
  obtain ⟨b1, b2⟩ := a1
  have a2 := signed_put v1 (textB (headB e.newer) ++ ((if e.kind = 2 then hb e.root ++ hashesB e.proof else []) ++ r))
  rw [← b2, signed_put w1] at a2
  simp only [Option.some.injEq, Prod.mk.injEq] at a2
  have a3 := signed_put v2 ((if e.kind = 2 then hb e.root ++ hashesB e.proof else []) ++ r)
  rw [← a2.2, signed_put w2] at a3
  simp only [Option.some.injEq, Prod.mk.injEq] at a3
  have a4 := a3.2
  by_cases k2 : e.kind = 2
  · rw [if_pos k2, if_pos (show e'.kind = 2 by omega)] at a4
    have a5 := unhash_hash e.root (hashesB e.proof ++ r)
    rw [← List.append_assoc, ← a4, unhash_hash] at a5
    simp only [Option.some.injEq, Prod.mk.injEq] at a5
    have a6 := unhashes_hashes e.proof r v3
    have a7 := unhashes_hashes e'.proof [] w3
    rw [List.append_nil, a5.2, a6] at a7
    simp only [Option.some.injEq, Prod.mk.injEq] at a7
    exact a7.2
  · rw [if_neg k2, if_neg (show ¬ e'.kind = 2 by omega)] at a4
    simpa using a4.symm
attribute [irreducible] sealOK evB signedB tailB getE
end Go.Proofs.YtahdekllphehkaaDoor

namespace Go.Proofs.YtahdekllphehkaaDoor
open Go.WL Go.Spec

def secK (len t index k : Nat) : Nat := shaN (len + 7) (((2 * 256 ^ len + t) * 4294967296 + index) * 65536 + k)
def pubK (len t index k : Nat) : Nat := force (secK len t index k) fun x => shaN 33 (3 * 256 ^ 32 + x)
def foldK (f : Nat → Nat) : Nat → Nat → Nat → Nat
  | 0, _, acc => acc
  | n + 1, k, acc => force (f k) fun x => force (acc * 256 ^ 32 + x) fun acc' => force (k + 1) fun k' => foldK f n k' acc'
def keyK (f : Nat → Nat) : Nat := force (foldK f 512 0 4) fun x => shaN 16385 x
def nodeK (a b : Nat) : Nat := shaN 65 ((256 ^ 32 + a) * 256 ^ 32 + b)

theorem hb_hN (h : Hash) : toN (hb h) = hN h := rfl
theorem foldK_eq (f : Nat → Nat) (g : Nat → Hash) : ∀ (n k acc : Nat), k + n ≤ 512 → (∀ i, i < 512 → f i = hN (g i)) → foldK f n k acc = acc * 256 ^ (32 * n) + toN (((List.range' k n).map g).flatMap hb)
  | 0, k, acc, _, _ => by rw [foldK]; simp [toN]
  | n + 1, k, acc, hk, h => by
    rw [foldK]
    simp only [force_eq]
    rw [show (force (k + 1) fun k' => foldK f n k' (acc * 256 ^ 32 + f k)) = foldK f n (k + 1) (acc * 256 ^ 32 + f k) from rfl]
    rw [foldK_eq f g n (k + 1) _ (by omega) h, List.range'_succ, List.map_cons, List.flatMap_cons, toN_append, flatHb_length, List.length_map, List.length_range', h k (by omega), hb_hN]
    rw [show 32 * (n + 1) = 32 + 32 * n by omega, Nat.pow_add, Nat.add_mul, Nat.mul_assoc, Nat.add_assoc]
theorem keyK_eq (f : Nat → Nat) (g : Nat → Hash) (h : ∀ i, i < 512 → f i = hN (g i)) : keyK f = hN (keyLeaf ((List.range 512).map g)) := by
  have hl : (([4] : Bytes) ++ ((List.range 512).map g).flatMap hb).length = 16385 := by rw [List.length_append, flatHb_length, List.length_map, List.length_range]; rfl
  unfold keyK keyLeaf
  rw [force_eq, foldK_eq f g 512 0 4 (by decide) h, if_pos (by rw [List.length_map, List.length_range]), hN_sha _ (by rw [hl]; decide), hl, toN_append, flatHb_length, List.length_map, List.length_range, show toN [4] = 4 from rfl, List.range_eq_range']
theorem secK_eq (seed : Bytes) (index k : Nat) (hi : index < 4294967296) (hk : k < 65536) (hl : (textB seed).length ≤ 1000) : secK (textB seed).length (toN (textB seed)) index k = hN (secretN seed index k) := by
  unfold secK secretN
  rw [hN_sha _ (by simp [putB_length]; omega), toN_append, toN_append, toN_append, toN_putB, toN_putB, putB_length, putB_length]
  simp only [List.length_append, putB_length, List.length_cons, List.length_nil]
  have e1 : (UInt64.ofNat index).toNat % 256 ^ 4 = index := by
    rw [UInt64.toNat_ofNat']
    show index % 18446744073709551616 % 4294967296 = index
    omega
  have e2 : (UInt64.ofNat k).toNat % 256 ^ 2 = k := by
    rw [UInt64.toNat_ofNat']
    show k % 18446744073709551616 % 65536 = k
    omega
  rw [e1, e2, show toN [2] = 2 from rfl, show (256 : Nat) ^ 4 = 4294967296 from rfl, show (256 : Nat) ^ 2 = 65536 from rfl, show 0 + 1 + (textB seed).length + 4 + 2 = (textB seed).length + 7 by omega]
theorem pubK_eq (seed : Bytes) (index k : Nat) (hi : index < 4294967296) (hk : k < 65536) (hl : (textB seed).length ≤ 1000) : pubK (textB seed).length (toN (textB seed)) index k = hN (pubL seed index k) := by
  unfold pubK pubL shownL
  rw [force_eq, secK_eq seed index k hi hk hl, hN_sha _ (by simp [hb_length]), toN_append, List.length_append, hb_length, hb_hN]
  rfl
theorem keyK_key (seed : Bytes) (index : Nat) (hi : index < 4294967296) (hl : (textB seed).length ≤ 1000) : keyK (pubK (textB seed).length (toN (textB seed)) index) = hN (keyLeaf (publicL seed index)) := by
  rw [keyK_eq _ (pubL seed index) fun i h => pubK_eq seed index i hi (by omega) hl]
  unfold publicL; rfl
end Go.Proofs.YtahdekllphehkaaDoor

