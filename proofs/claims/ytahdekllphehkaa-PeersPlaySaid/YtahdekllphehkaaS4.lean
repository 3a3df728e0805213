/- What the reference's peers need; no statement of the seat is proved here. -/
import Derived.Test.YtahdekllphehkaaS3
set_option linter.unusedVariables false
set_option linter.unusedSimpArgs false
namespace Go.Proofs.Ytahdekllphehkaa
open Go.WL Go.Spec

theorem permW {r x y : Ent} {R : List Ent} : List.Perm (r :: x :: y :: R) (y :: r :: x :: R) :=
  (List.Perm.cons r (List.Perm.swap y x R)).trans (List.Perm.swap y r (x :: R))
theorem permG {x y z u : Ent} {R : List Ent} : List.Perm (x :: y :: z :: u :: R) (z :: u :: x :: y :: R) := by
  have := (List.perm_append_comm (l₁ := [x, y]) (l₂ := [z, u])).append_right R
  simpa using this
theorem clW {w0 w : World} {E : List Nat} {r x y : Ent} {R : List Ent} (h : Cl w0 E (r :: x :: y :: R) w) : Cl w0 E [y, r] w :=
  (h.perm permW).sub (List.Sublist.cons_cons _ (List.Sublist.cons_cons _ (List.nil_sublist _)))
theorem clS {w0 w : World} {E : List Nat} {x y : Ent} {R : List Ent} (h : Cl w0 E (x :: y :: R) w) : Cl w0 E [y, x] w :=
  (h.perm (List.Perm.swap y x R)).sub (List.Sublist.cons_cons _ (List.Sublist.cons_cons _ (List.nil_sublist _)))
theorem parole_tab {s : Int} {k : Nat} (h : 0 ≤ s) (e : (if 4 < s then (4 : Int) else s) = (k : Int)) : ([Value.int .i64 64, .int .i64 128, .int .i64 256, .int .i64 512, .int .i64 1024] : List Value)[0 + (k : Int).toNat * 1]? = some (.int .i64 (paroleP s)) := by
  rw [Int.toNat_natCast, Nat.zero_add, Nat.mul_one]
  have hk : k ≤ 4 := by split at e <;> omega
  have hc : k = 0 ∨ k = 1 ∨ k = 2 ∨ k = 3 ∨ k = 4 := by omega
  rcases hc with rfl | rfl | rfl | rfl | rfl
  · have : s = 0 := by split at e <;> omega
    subst this; rfl
  · have : s = 1 := by split at e <;> omega
    subst this; rfl
  · have : s = 2 := by split at e <;> omega
    subst this; rfl
  · have : s = 3 := by split at e <;> omega
    subst this; rfl
  · have : 4 ≤ s := by split at e <;> omega
    rw [show paroleP s = 1024 by unfold paroleP; omega]; rfl
theorem repl_snoc (i : Nat) : (List.replicate i Pr.zero).flatMap prC ++ prC Pr.zero = (List.replicate (i + 1) Pr.zero).flatMap prC := by
  rw [List.replicate_succ', List.flatMap_append, List.flatMap_singleton]
theorem wrap_next {a n m : Nat} (hn : 0 < n) : (a + (m + 1)) % n = if (a + m) % n + 1 = n then 0 else (a + m) % n + 1 := by
  have h1 := Nat.mod_lt (a + m) hn
  have h2 := Nat.div_add_mod (a + m) n
  by_cases h : (a + m) % n + 1 = n
  · rw [if_pos h]
    have : a + (m + 1) = n * ((a + m) / n + 1) := by rw [Nat.mul_add, Nat.mul_one]; omega
    rw [this, Nat.mul_mod_right]
  · rw [if_neg h]
    have : a + (m + 1) = ((a + m) % n + 1) + n * ((a + m) / n) := by omega
    rw [this, Nat.add_mul_mod_self_left, Nat.mod_eq_of_lt (by omega)]
theorem perm32 {x y z u v : Ent} : List.Perm [x, y, z, u, v] [u, v, x, y, z] := List.perm_append_comm (l₁ := [x, y, z]) (l₂ := [u, v])
theorem nextV_shape (p : PS) (now : Int) : ∃ (ni : Int) (nb : Bool), nextV p now = .tuple #[.int .i64 ni, .bool nb] := by
  unfold nextV
  cases nextI p now with
  | none => exact ⟨_, _, rfl⟩
  | some i => exact ⟨_, _, rfl⟩
end Go.Proofs.Ytahdekllphehkaa
