/- How long is waited, behind any tries, by any draw, is the document's: for every number of tries and every draw; no condition. -/
import Derived.Test.YtahdekllphehkaaPBackoffTellx1
namespace Go.Proofs.Ytahdekllphehkaa.Pure
open Go.RowKit Go.Proofs.Ytahdekllphehkaa.PBackoffTell Go.Proofs.YtahdekllphehkaaW.PrintWords Go.Proofs.YtahdekllphehkaaW.PrintLast Go.Proofs.YtahdekllphehkaaW.PrintMore

set_option linter.unusedSimpArgs false
set_option linter.unusedVariables false

/-- What Base tells. -/
def baseS (a : Int) : Int := if a < 1 then 0 else if a < 2 then 1 else if a < 3 then 2 else if a < 4 then 4 else if a < 5 then 8 else if a < 6 then 16 else 32

theorem baseS_cases (a : Int) : baseS a = 0 ∨ baseS a = 1 ∨ baseS a = 2 ∨ baseS a = 4 ∨ baseS a = 8 ∨ baseS a = 16 ∨ baseS a = 32 := by
  unfold baseS; omega

theorem base_prog (a : Int) (h : a ≤ 9223372036854775807) : backoff_Base.f a = some (baseS a) := by
  unfold backoff_Base.f
  by_cases h1 : a < 1
  · rw [if_pos h1]; unfold baseS; rw [if_pos h1]
  · rw [if_neg h1]
    have hw : wrap64 (a - 1) = a - 1 := by unfold wrap64; omega
    rw [hw]
    by_cases h2 : a < 21
    · have hc : a = 1 ∨ a = 2 ∨ a = 3 ∨ a = 4 ∨ a = 5 ∨ a = 6 ∨ a = 7 ∨ a = 8 ∨ a = 9 ∨ a = 10 ∨ a = 11 ∨ a = 12 ∨ a = 13 ∨ a = 14 ∨ a = 15 ∨ a = 16 ∨ a = 17 ∨ a = 18 ∨ a = 19 ∨ a = 20 := by omega
      rcases hc with rfl | rfl | rfl | rfl | rfl | rfl | rfl | rfl | rfl | rfl | rfl | rfl | rfl | rfl | rfl | rfl | rfl | rfl | rfl | rfl <;> decide +kernel
    · have hm : mn (a - 1) 20 = 20 := by unfold mn; split <;> omega
      rw [hm]
      have hb : baseS a = 32 := by unfold baseS; omega
      rw [hb]; decide +kernel

theorem base_ref (k : Nat) (a : Int) (hk : 7 ≤ k) : speculumref19_Base.f k a = some (baseS a) := by
  obtain ⟨k, rfl⟩ : ∃ m, k = m + 7 := ⟨k - 7, by omega⟩
  unfold speculumref19_Base.f
  have w0 : mx (wrap64 (2 * 0)) 1 = 1 := by decide +kernel
  have w1 : mx (wrap64 (2 * 1)) 1 = 2 := by decide +kernel
  have w2 : mx (wrap64 (2 * 2)) 1 = 4 := by decide +kernel
  have w4 : mx (wrap64 (2 * 4)) 1 = 8 := by decide +kernel
  have w8 : mx (wrap64 (2 * 8)) 1 = 16 := by decide +kernel
  have w16 : mx (wrap64 (2 * 16)) 1 = 32 := by decide +kernel
  have s0 : wrap64 (0 + 1) = 1 := by decide +kernel
  have s1 : wrap64 (1 + 1) = 2 := by decide +kernel
  have s2 : wrap64 (2 + 1) = 3 := by decide +kernel
  have s3 : wrap64 (3 + 1) = 4 := by decide +kernel
  have s4 : wrap64 (4 + 1) = 5 := by decide +kernel
  have s5 : wrap64 (5 + 1) = 6 := by decide +kernel
  by_cases h0 : 0 < a
  · by_cases h1 : 1 < a
    · by_cases h2 : 2 < a
      · by_cases h3 : 3 < a
        · by_cases h4 : 4 < a
          · by_cases h5 : 5 < a
            · have hb : baseS a = 32 := by unfold baseS; omega
              rw [hb]
              simp only [speculumref19_Base.l0, w0, w1, w2, w4, w8, w16, s0, s1, s2, s3, s4, s5, if_pos h0, if_pos h1, if_pos h2, if_pos h3, if_pos h4, if_pos h5]
              simp
            · obtain rfl : a = 5 := by omega
              simp only [speculumref19_Base.l0, w0, w1, w2, w4, w8, s0, s1, s2, s3, s4]
              simp [baseS]
          · obtain rfl : a = 4 := by omega
            simp only [speculumref19_Base.l0, w0, w1, w2, w4, s0, s1, s2, s3]
            simp [baseS]
        · obtain rfl : a = 3 := by omega
          simp only [speculumref19_Base.l0, w0, w1, w2, s0, s1, s2]
          simp [baseS]
      · obtain rfl : a = 2 := by omega
        simp only [speculumref19_Base.l0, w0, w1, s0, s1]
        simp [baseS]
    · obtain rfl : a = 1 := by omega
      simp only [speculumref19_Base.l0, w0, s0]
      simp [baseS]
  · have hb : baseS a = 0 := by unfold baseS; omega
    rw [hb]
    simp only [speculumref19_Base.l0, if_neg h0]

/-- What Gap tells. -/
def gapS (b d : Int) : Int := (b + 1) / 2 + d % (b / 2 + 1)

theorem gap_prog (a d : Int) (h : a ≤ 9223372036854775807) (hd : 0 ≤ d ∧ d ≤ 255) : backoff_Gap.f a d = some (gapS (baseS a) d) := by
  unfold backoff_Gap.f
  rw [base_prog a h]
  simp only [Option.bind_some]
  have hw : wrap64 d = d := by unfold wrap64; omega
  rw [hw]
  unfold gapS
  rcases baseS_cases a with e | e | e | e | e | e | e <;> rw [e]
  all_goals
    have k0 : wrap64 (Int.tdiv 0 2) = 0 := by decide +kernel
    have k1 : wrap64 (Int.tdiv 1 2) = 0 := by decide +kernel
    have k2 : wrap64 (Int.tdiv 2 2) = 1 := by decide +kernel
    have k4 : wrap64 (Int.tdiv 4 2) = 2 := by decide +kernel
    have k8 : wrap64 (Int.tdiv 8 2) = 4 := by decide +kernel
    have k16 : wrap64 (Int.tdiv 16 2) = 8 := by decide +kernel
    have k32 : wrap64 (Int.tdiv 32 2) = 16 := by decide +kernel
    have c0 : wrap64 (Int.tdiv 1 2) = 0 := by decide +kernel
    have c1 : wrap64 (Int.tdiv 2 2) = 1 := by decide +kernel
    have c2 : wrap64 (Int.tdiv 3 2) = 1 := by decide +kernel
    have c4 : wrap64 (Int.tdiv 5 2) = 2 := by decide +kernel
    have c8 : wrap64 (Int.tdiv 9 2) = 4 := by decide +kernel
    have c16 : wrap64 (Int.tdiv 17 2) = 8 := by decide +kernel
    have c32 : wrap64 (Int.tdiv 33 2) = 16 := by decide +kernel
    have m0 : wrap64 (0 + 1) = 1 := by decide +kernel
    have m1 : wrap64 (1 + 1) = 2 := by decide +kernel
    have m2 : wrap64 (2 + 1) = 3 := by decide +kernel
    have m4 : wrap64 (4 + 1) = 5 := by decide +kernel
    have m8 : wrap64 (8 + 1) = 9 := by decide +kernel
    have m16 : wrap64 (16 + 1) = 17 := by decide +kernel
    have m32 : wrap64 (32 + 1) = 33 := by decide +kernel
    have s0 : wrap64 (0 - 0) = 0 := by decide +kernel
    have s1 : wrap64 (1 - 0) = 1 := by decide +kernel
    have s2 : wrap64 (2 - 1) = 1 := by decide +kernel
    have s4 : wrap64 (4 - 2) = 2 := by decide +kernel
    have s8 : wrap64 (8 - 4) = 4 := by decide +kernel
    have s16 : wrap64 (16 - 8) = 8 := by decide +kernel
    have s32 : wrap64 (32 - 16) = 16 := by decide +kernel
    simp only [c0, c1, c2, c4, c8, c16, c32, s0, s1, s2, s4, s8, s16, s32, k0, k1, k2, k4, k8, k16, k32, m0, m1, m2, m4, m8, m16, m32]
    rw [if_neg (by decide +kernel)]
    congr 1
    rw [Int.tmod_eq_emod_of_nonneg hd.1]
    simp only [wrap64]
    omega

theorem gap_ref (k : Nat) (a d : Int) (hk : 7 ≤ k) (hd : 0 ≤ d ∧ d ≤ 255) : speculumref19_Gap.f k a d = some (gapS (baseS a) d) := by
  unfold speculumref19_Gap.f
  rw [base_ref k a hk]
  simp only [Option.bind_some]
  have hw : wrap64 d = d := by unfold wrap64; omega
  rw [hw]
  unfold gapS
  rcases baseS_cases a with e | e | e | e | e | e | e <;> rw [e]
  all_goals
    have k0 : wrap64 (Int.tdiv 0 2) = 0 := by decide +kernel
    have k1 : wrap64 (Int.tdiv 1 2) = 0 := by decide +kernel
    have k2 : wrap64 (Int.tdiv 2 2) = 1 := by decide +kernel
    have k4 : wrap64 (Int.tdiv 4 2) = 2 := by decide +kernel
    have k8 : wrap64 (Int.tdiv 8 2) = 4 := by decide +kernel
    have k16 : wrap64 (Int.tdiv 16 2) = 8 := by decide +kernel
    have k32 : wrap64 (Int.tdiv 32 2) = 16 := by decide +kernel
    have c0 : wrap64 (Int.tdiv 1 2) = 0 := by decide +kernel
    have c1 : wrap64 (Int.tdiv 2 2) = 1 := by decide +kernel
    have c2 : wrap64 (Int.tdiv 3 2) = 1 := by decide +kernel
    have c4 : wrap64 (Int.tdiv 5 2) = 2 := by decide +kernel
    have c8 : wrap64 (Int.tdiv 9 2) = 4 := by decide +kernel
    have c16 : wrap64 (Int.tdiv 17 2) = 8 := by decide +kernel
    have c32 : wrap64 (Int.tdiv 33 2) = 16 := by decide +kernel
    have m0 : wrap64 (0 + 1) = 1 := by decide +kernel
    have m1 : wrap64 (1 + 1) = 2 := by decide +kernel
    have m2 : wrap64 (2 + 1) = 3 := by decide +kernel
    have m4 : wrap64 (4 + 1) = 5 := by decide +kernel
    have m8 : wrap64 (8 + 1) = 9 := by decide +kernel
    have m16 : wrap64 (16 + 1) = 17 := by decide +kernel
    have m32 : wrap64 (32 + 1) = 33 := by decide +kernel
    have s0 : wrap64 (0 - 0) = 0 := by decide +kernel
    have s1 : wrap64 (1 - 0) = 1 := by decide +kernel
    have s2 : wrap64 (2 - 1) = 1 := by decide +kernel
    have s4 : wrap64 (4 - 2) = 2 := by decide +kernel
    have s8 : wrap64 (8 - 4) = 4 := by decide +kernel
    have s16 : wrap64 (16 - 8) = 8 := by decide +kernel
    have s32 : wrap64 (32 - 16) = 16 := by decide +kernel
    simp only [c0, c1, c2, c4, c8, c16, c32, s0, s1, s2, s4, s8, s16, s32, k0, k1, k2, k4, k8, k16, k32, m0, m1, m2, m4, m8, m16, m32]
    rw [if_neg (by decide +kernel)]
    congr 1
    rw [Int.tmod_eq_emod_of_nonneg hd.1]
    simp only [wrap64]
    omega

theorem gaps_true : speculumlaw19_gaps.f = some true := by
  unfold speculumlaw19_gaps.f
  rw [base_prog 1 (by decide +kernel), base_prog 4 (by decide +kernel), base_prog 6 (by decide +kernel), base_prog 99 (by decide +kernel), gap_prog 1 77 (by decide +kernel) (by decide +kernel), gap_prog 4 0 (by decide +kernel) (by decide +kernel), gap_prog 4 4 (by decide +kernel) (by decide +kernel), gap_prog 4 5 (by decide +kernel) (by decide +kernel)]
  decide +kernel

theorem tell_loop (a0 a1 : Int) (h0 : a0 ≤ 9223372036854775807) (hd : 0 ≤ a1 ∧ a1 ≤ 255) (d : Nat) : ∀ (k : Nat) (i : Int), -1 ≤ i → i ≤ 40 → 40 - i = d → d + 8 ≤ k → speculumlaw19_BackoffTell.l0 k a0 a1 i = some true := by
  induction d with
  | zero =>
    intro k i h1 h2 he hk
    obtain ⟨k, rfl⟩ : ∃ m, k = m + 1 := ⟨k - 1, by omega⟩
    simp only [speculumlaw19_BackoffTell.l0]
    rw [if_neg (by omega), base_prog a0 h0, base_ref k a0 (by omega), gap_prog a0 a1 h0 hd, gap_ref k a0 a1 (by omega) hd, gaps_true]
    simp
  | succ d ih =>
    intro k i h1 h2 he hk
    obtain ⟨k, rfl⟩ : ∃ m, k = m + 1 := ⟨k - 1, by omega⟩
    simp only [speculumlaw19_BackoffTell.l0]
    rw [if_pos (by omega), base_prog i (by omega), base_ref k i (by omega), gap_prog i a1 (by omega) hd, gap_ref k i a1 (by omega) hd]
    simp only [Option.bind_some, if_true]
    have hw : wrap64 (i + 1) = i + 1 := by unfold wrap64; omega
    rw [hw]
    exact ih k (i + 1) (by omega) (by omega) (by omega) (by omega)

theorem BackoffTell : speculumlaw19_BackoffTell.Pure := by
  intro a0 a1 w0 w1
  have h0 : a0 ≤ 9223372036854775807 := by simp [Lit.wf, IntKind.min, IntKind.max, IntKind.signed, IntKind.bits] at w0; omega
  have h1 : 0 ≤ a1 ∧ a1 ≤ 255 := by simp [Lit.wf, IntKind.min, IntKind.max, IntKind.signed, IntKind.bits] at w1; omega
  exact ⟨60, tell_loop a0 a1 h0 h1 41 60 (-1) (by omega) (by omega) (by omega) (by omega)⟩

end Go.Proofs.Ytahdekllphehkaa.Pure
