/- Peers, and how long is waited, as plain Lean functions; no statement of the seat is proved here. -/
import Derived.Test.YtahdekllphehkaaDoorML
set_option linter.unusedVariables false
set_option linter.unusedSimpArgs false
namespace Go.Proofs.Ytahdekllphehkaa
open Go.WL

/-- The most that is waited behind so many tries. -/
def baseP (t : Int) : Int := if t < 1 then 0 else if t < 2 then 1 else if t < 3 then 2 else if t < 4 then 4 else if t < 5 then 8 else if t < 6 then 16 else 32
theorem baseP_cases (a : Int) : baseP a = 0 ∨ baseP a = 1 ∨ baseP a = 2 ∨ baseP a = 4 ∨ baseP a = 8 ∨ baseP a = 16 ∨ baseP a = 32 := by
  unfold baseP; omega
theorem baseP_pos {a : Int} (h : 1 ≤ a) : 1 ≤ baseP a := by unfold baseP; omega
theorem baseP_le (a : Int) : 0 ≤ baseP a ∧ baseP a ≤ 32 := by unfold baseP; omega
theorem baseP_mono (a : Int) : baseP a ≤ baseP (a + 1) := by unfold baseP; omega
/-- What is waited, by a draw. -/
def gapP (t d : Int) : Int := (baseP t + 1) / 2 + d % (baseP t / 2 + 1)
theorem gapP_le {t d : Int} : 0 ≤ gapP t d ∧ gapP t d ≤ 32 := by
  have h := baseP_le t
  have h2 := Int.emod_nonneg d (show baseP t / 2 + 1 ≠ 0 by omega)
  have h3 := Int.emod_lt_of_pos d (show 0 < baseP t / 2 + 1 by omega)
  have h4 := baseP_cases t
  unfold gapP
  generalize d % (baseP t / 2 + 1) = q at *
  omega
theorem gapP_in {t d : Int} (h : 1 ≤ t) : (baseP t + 1) / 2 ≤ gapP t d ∧ gapP t d ≤ baseP t := by
  have h0 := baseP_le t
  have h2 := Int.emod_nonneg d (show baseP t / 2 + 1 ≠ 0 by omega)
  have h3 := Int.emod_lt_of_pos d (show 0 < baseP t / 2 + 1 by omega)
  have h4 := baseP_pos h
  unfold gapP
  generalize d % (baseP t / 2 + 1) = q at *
  omega
theorem gapP_hit {t g : Int} (h : 1 ≤ t) (h1 : (baseP t + 1) / 2 ≤ g) (h2 : g ≤ baseP t) : 0 ≤ g - (baseP t + 1) / 2 ∧ g - (baseP t + 1) / 2 < 256 ∧ gapP t (g - (baseP t + 1) / 2) = g := by
  have h3 := baseP_le t
  have h4 := baseP_pos h
  have h5 : (g - (baseP t + 1) / 2) % (baseP t / 2 + 1) = g - (baseP t + 1) / 2 := Int.emod_eq_of_lt (by omega) (by omega)
  unfold gapP
  rw [h5]
  omega
/-- The program's reckoning of the most. -/
theorem baseP_shift {t : Int} (h : 1 ≤ t) (h2 : t ≤ 21) : (if (32 : Int) < 2 ^ (t - 1).toNat then (32 : Int) else 2 ^ (t - 1).toNat) = baseP t := by
  have hc : t = 1 ∨ t = 2 ∨ t = 3 ∨ t = 4 ∨ t = 5 ∨ t = 6 ∨ t = 7 ∨ t = 8 ∨ t = 9 ∨ t = 10 ∨ t = 11 ∨ t = 12 ∨ t = 13 ∨ t = 14 ∨ t = 15 ∨ t = 16 ∨ t = 17 ∨ t = 18 ∨ t = 19 ∨ t = 20 ∨ t = 21 := by omega
  rcases hc with rfl | rfl | rfl | rfl | rfl | rfl | rfl | rfl | rfl | rfl | rfl | rfl | rfl | rfl | rfl | rfl | rfl | rfl | rfl | rfl | rfl <;> decide
theorem baseP_big {t : Int} (h : 6 ≤ t) : baseP t = 32 := by unfold baseP; omega
/-- The reference's: what stands behind so many turns. -/
def turnB : Nat → Int
  | 0 => 0
  | 1 => 1
  | 2 => 2
  | 3 => 4
  | 4 => 8
  | 5 => 16
  | _ => 32
theorem turnB_step {i : Nat} (h : turnB i < 32) : turnB (i + 1) = if 2 * turnB i < 1 then 1 else 2 * turnB i := by
  have hc : i = 0 ∨ i = 1 ∨ i = 2 ∨ i = 3 ∨ i = 4 ∨ i = 5 ∨ 6 ≤ i := by omega
  rcases hc with rfl | rfl | rfl | rfl | rfl | rfl | h6
  all_goals try rfl
  obtain ⟨k, rfl⟩ : ∃ k, i = k + 6 := ⟨i - 6, by omega⟩
  exact absurd h (by show ¬ (32 : Int) < 32; decide)
theorem turnB_lt {i : Nat} (h : turnB i < 32) : i ≤ 5 := by
  rcases Nat.lt_or_ge 5 i with h6 | h6
  · obtain ⟨k, rfl⟩ : ∃ k, i = k + 6 := ⟨i - 6, by omega⟩
    exact absurd h (by show ¬ (32 : Int) < 32; decide)
  · exact h6
theorem turnB_le (i : Nat) : 0 ≤ turnB i ∧ turnB i ≤ 32 := by
  have hc : i = 0 ∨ i = 1 ∨ i = 2 ∨ i = 3 ∨ i = 4 ∨ i = 5 ∨ 6 ≤ i := by omega
  rcases hc with rfl | rfl | rfl | rfl | rfl | rfl | h6
  all_goals try decide
  obtain ⟨k, rfl⟩ : ∃ k, i = k + 6 := ⟨i - 6, by omega⟩
  show (0 : Int) ≤ 32 ∧ (32 : Int) ≤ 32
  decide
/-- Behind the last turn. -/
theorem turnB_end {i : Nat} {t : Int} (h : ¬ ((i : Int) < t ∧ turnB i < 32)) (hi : (i : Int) ≤ t ∨ (i = 0 ∧ t ≤ 0)) : turnB i = baseP t := by
  have hc : i = 0 ∨ i = 1 ∨ i = 2 ∨ i = 3 ∨ i = 4 ∨ i = 5 ∨ 6 ≤ i := by omega
  rcases hc with rfl | rfl | rfl | rfl | rfl | rfl | h6
  · have : ¬ ((0 : Nat) : Int) < t := fun hh => h ⟨hh, by decide⟩
    show (0 : Int) = _; unfold baseP; omega
  · have : ¬ ((1 : Nat) : Int) < t := fun hh => h ⟨hh, by decide⟩
    show (1 : Int) = _; unfold baseP; omega
  · have : ¬ ((2 : Nat) : Int) < t := fun hh => h ⟨hh, by decide⟩
    show (2 : Int) = _; unfold baseP; omega
  · have : ¬ ((3 : Nat) : Int) < t := fun hh => h ⟨hh, by decide⟩
    show (4 : Int) = _; unfold baseP; omega
  · have : ¬ ((4 : Nat) : Int) < t := fun hh => h ⟨hh, by decide⟩
    show (8 : Int) = _; unfold baseP; omega
  · have : ¬ ((5 : Nat) : Int) < t := fun hh => h ⟨hh, by decide⟩
    show (16 : Int) = _; unfold baseP; omega
  · obtain ⟨k, rfl⟩ : ∃ k, i = k + 6 := ⟨i - 6, by omega⟩
    show (32 : Int) = _; unfold baseP; omega

/-! ### peers -/
structure Pr where
  tries : Int
  strikes : Int
  upto : Int
  barred : Bool
def Pr.zero : Pr := ⟨0, 0, 0, false⟩
instance : Inhabited Pr := ⟨Pr.zero⟩
/-- Its cells. -/
def prC (x : Pr) : List Value := [.int .i64 x.tries, .int .i64 x.strikes, .int .i64 x.upto, .bool x.barred]
def Pr.ok (x : Pr) : Prop := 0 ≤ x.tries ∧ x.tries ≤ 1048576 ∧ 0 ≤ x.strikes ∧ x.strikes ≤ 1048576 ∧ 0 ≤ x.upto ∧ x.upto ≤ 1099511628800
theorem Pr.zero_ok : Pr.zero.ok := by unfold Pr.ok Pr.zero; decide
def near (now : Int) : Int := if now < 0 then 0 else if 1099511627776 < now then 1099511627776 else now
theorem near_in (now : Int) : 0 ≤ near now ∧ near now ≤ 1099511627776 := by unfold near; omega
def lateP (x : Pr) (now d : Int) : Pr := ⟨if 1048576 < x.tries + 1 then 1048576 else x.tries + 1, x.strikes, near now + gapP (if 1048576 < x.tries + 1 then 1048576 else x.tries + 1) d, x.barred⟩
def paroleP (s : Int) : Int := if s < 1 then 64 else if s < 2 then 128 else if s < 3 then 256 else if s < 4 then 512 else 1024
def badP (x : Pr) (now : Int) : Pr := ⟨0, if 1048576 < x.strikes + 1 then 1048576 else x.strikes + 1, near now + paroleP x.strikes, true⟩
def idleP (x : Pr) (now : Int) : Pr := ⟨x.tries, x.strikes, near now + 4, x.barred⟩
def goodP (x : Pr) : Pr := ⟨0, x.strikes, x.upto, false⟩
theorem late_ok {x : Pr} (h : x.ok) (now d : Int) : (lateP x now d).ok := by
  obtain ⟨h1, h2, h3, h4, h5, h6⟩ := h
  have hn := near_in now
  have hT : 0 ≤ (if 1048576 < x.tries + 1 then (1048576 : Int) else x.tries + 1) ∧ (if 1048576 < x.tries + 1 then (1048576 : Int) else x.tries + 1) ≤ 1048576 := by split <;> omega
  unfold Pr.ok lateP
  simp only
  generalize (if 1048576 < x.tries + 1 then (1048576 : Int) else x.tries + 1) = T at *
  have hg := @gapP_le T d
  refine ⟨?_, ?_, h3, h4, ?_, ?_⟩ <;> omega
theorem bad_ok {x : Pr} (h : x.ok) (now : Int) : (badP x now).ok := by
  obtain ⟨h1, h2, h3, h4, h5, h6⟩ := h
  have hn := near_in now
  unfold Pr.ok badP paroleP
  refine ⟨by simp, by simp, ?_, ?_, ?_, ?_⟩ <;> simp only <;> omega
theorem idle_ok {x : Pr} (h : x.ok) (now : Int) : (idleP x now).ok := by
  obtain ⟨h1, h2, h3, h4, h5, h6⟩ := h
  have hn := near_in now
  unfold Pr.ok idleP
  refine ⟨h1, h2, h3, h4, ?_, ?_⟩ <;> simp only <;> omega
theorem good_ok {x : Pr} (h : x.ok) : (goodP x).ok := by
  obtain ⟨h1, h2, h3, h4, h5, h6⟩ := h
  unfold Pr.ok goodP
  exact ⟨by simp, by simp, h3, h4, h5, h6⟩
theorem parole_shift {s : Int} (h : 0 ≤ s) : 64 * (2 : Int) ^ (if 4 < s then (4 : Int) else s).toNat = paroleP s := by
  by_cases h4 : 4 < s
  · rw [if_pos h4]; show (1024 : Int) = _; unfold paroleP; omega
  · rw [if_neg h4]
    rcases (by omega : s = 0 ∨ s = 1 ∨ s = 2 ∨ s = 3 ∨ s = 4) with rfl | rfl | rfl | rfl | rfl <;> decide

structure PS where
  l : List Pr
  last : Nat
def PS.ok (p : PS) : Prop := 1 ≤ p.l.length ∧ p.l.length ≤ 8 ∧ p.last < p.l.length ∧ ∀ x ∈ p.l, x.ok
def PS.get (p : PS) (i : Nat) : Pr := p.l.getD i Pr.zero
def PS.set (p : PS) (i : Nat) (x : Pr) : PS := ⟨p.l.set i x, p.last⟩
def PS.new (n : Nat) : PS := ⟨List.replicate n Pr.zero, n - 1⟩
theorem PS.get_ok {p : PS} (h : p.ok) (i : Nat) : (p.get i).ok := by
  unfold PS.get
  rw [List.getD_eq_getElem?_getD]
  cases e : p.l[i]? with
  | none => exact Pr.zero_ok
  | some x => exact h.2.2.2 x (List.mem_of_getElem? e)
theorem PS.set_ok {p : PS} (h : p.ok) (i : Nat) {x : Pr} (hx : x.ok) : (p.set i x).ok := by
  obtain ⟨h1, h2, h3, h4⟩ := h
  unfold PS.set PS.ok
  simp only [List.length_set]
  refine ⟨h1, h2, h3, fun y hy => ?_⟩
  rcases List.mem_or_eq_of_mem_set hy with hy | rfl
  · exact h4 y hy
  · exact hx
theorem PS.new_ok {n : Nat} (h1 : 1 ≤ n) (h2 : n ≤ 8) : (PS.new n).ok := by
  unfold PS.new PS.ok
  simp only [List.length_replicate]
  refine ⟨h1, h2, by omega, fun x hx => ?_⟩
  rw [List.eq_of_mem_replicate hx]; exact Pr.zero_ok
/-- The next one that is asked, from a number of steps on. -/
def nextF (p : PS) (t : Int) : Nat → Nat → Option Nat
  | 0, _ => none
  | f + 1, k => if (p.get ((p.last + k) % p.l.length)).upto ≤ t then some ((p.last + k) % p.l.length) else nextF p t f (k + 1)
def nextI (p : PS) (now : Int) : Option Nat := nextF p (near now) p.l.length 1
def nextS (p : PS) (now : Int) : PS := match nextI p now with
  | none => p
  | some i => ⟨p.l, i⟩
theorem nextF_lt {p : PS} (h : 0 < p.l.length) {t : Int} : ∀ {f k i : Nat}, nextF p t f k = some i → i < p.l.length
  | 0, k, i, e => by rw [nextF] at e; cases e
  | f + 1, k, i, e => by
    rw [nextF] at e
    split at e
    · simp only [Option.some.injEq] at e
      rw [← e]; exact Nat.mod_lt _ h
    · exact nextF_lt h e
theorem nextS_ok {p : PS} (h : p.ok) (now : Int) : (nextS p now).ok := by
  unfold nextS
  cases e : nextI p now with
  | none => exact h
  | some i =>
    obtain ⟨h1, h2, h3, h4⟩ := h
    have hl : 0 < p.l.length := by omega
    exact ⟨h1, h2, @nextF_lt p hl (near now) p.l.length 1 i e, h4⟩
theorem nextF_step {p : PS} {t : Int} {f k : Nat} : nextF p t (f + 1) k = if (p.get ((p.last + k) % p.l.length)).upto ≤ t then some ((p.last + k) % p.l.length) else nextF p t f (k + 1) := by rw [nextF]
theorem nextF_none {p : PS} {t : Int} {k : Nat} : nextF p t 0 k = none := by rw [nextF]
/-- Where all may be asked, one is. -/
theorem nextI_all {p : PS} (h : p.ok) {now : Int} (ha : ∀ x ∈ p.l, x.upto ≤ near now) : ∃ i, nextI p now = some i := by
  obtain ⟨h1, h2, h3, h4⟩ := h
  unfold nextI
  obtain ⟨m, hm⟩ : ∃ m, p.l.length = m + 1 := ⟨p.l.length - 1, by omega⟩
  rw [hm, nextF]
  have hlt : (p.last + 1) % p.l.length < p.l.length := Nat.mod_lt _ (by omega)
  have : (p.get ((p.last + 1) % p.l.length)).upto ≤ near now := by
    unfold PS.get
    rw [List.getD_eq_getElem?_getD, List.getElem?_eq_getElem hlt]
    exact ha _ (List.getElem_mem hlt)
  rw [if_pos this]
  exact ⟨_, rfl⟩
def inP (p : PS) (i : Int) : Prop := 0 ≤ i ∧ i < p.l.length
instance (p : PS) (i : Int) : Decidable (inP p i) := by unfold inP; exact inferInstance
def barredP (p : PS) (i now : Int) : Prop := inP p i ∧ (p.get i.toNat).barred = true ∧ near now < (p.get i.toNat).upto
instance (p : PS) (i now : Int) : Decidable (barredP p i now) := by unfold barredP; exact inferInstance

/-! ### asked again -/
/-- How a peer that was Bad, or never was, is at a tick. -/
def Fair (x : Pr) (bad : Bool) (now : Int) : Prop := x.upto ≤ now + 1024 ∧ (bad = false → x.barred = false ∧ x.upto ≤ now + 32)
theorem Fair.zero {now : Int} (h : 0 ≤ now) : Fair Pr.zero false now := ⟨by show (0 : Int) ≤ _; omega, fun _ => ⟨rfl, by show (0 : Int) ≤ _; omega⟩⟩
theorem Fair.later {x : Pr} {b : Bool} {now t : Int} (h : Fair x b now) (ht : now ≤ t) : Fair x b t := ⟨by have := h.1; omega, fun hb => ⟨(h.2 hb).1, by have := (h.2 hb).2; omega⟩⟩
theorem near_self {now : Int} (h : 0 ≤ now) (h2 : now ≤ 1099511627776) : near now = now := by unfold near; omega
theorem Fair.good {x : Pr} {b : Bool} {now : Int} (h : Fair x b now) : Fair (goodP x) b now := ⟨h.1, fun hb => ⟨rfl, (h.2 hb).2⟩⟩
theorem Fair.late {x : Pr} {b : Bool} {now d : Int} (h : Fair x b now) (h0 : 0 ≤ now) (h1 : now ≤ 1099511627776) : Fair (lateP x now d) b now := by
  have hn := near_self h0 h1
  unfold Fair lateP
  simp only
  generalize (if 1048576 < x.tries + 1 then (1048576 : Int) else x.tries + 1) = T at *
  have hg := @gapP_le T d
  refine ⟨?_, fun hb => ⟨(h.2 hb).1, ?_⟩⟩ <;> omega
theorem Fair.bad {x : Pr} {b : Bool} {now : Int} (h0 : 0 ≤ now) (h1 : now ≤ 1099511627776) : Fair (badP x now) true now := by
  have hn := near_self h0 h1
  refine ⟨?_, fun hb => by cases hb⟩
  unfold badP paroleP; simp only; omega
theorem Fair.idle {x : Pr} {b : Bool} {now : Int} (h : Fair x b now) (h0 : 0 ≤ now) (h1 : now ≤ 1099511627776) : Fair (idleP x now) b now := by
  have hn := near_self h0 h1
  refine ⟨?_, fun hb => ⟨(h.2 hb).1, ?_⟩⟩ <;> unfold idleP <;> simp only <;> omega
end Go.Proofs.Ytahdekllphehkaa
