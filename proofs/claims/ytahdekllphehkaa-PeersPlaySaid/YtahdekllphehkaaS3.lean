/- Acts in the store, and what is known of peers along them; no statement of the seat is proved here. -/
import Derived.Test.YtahdekllphehkaaS2
set_option linter.unusedVariables false
set_option linter.unusedSimpArgs false
namespace Go.Proofs.Ytahdekllphehkaa
open Go.WL Go.Spec

structure Ac where
  kd : UInt8
  ix : Int
  nw : Int
  dr : UInt8
def acC (a : Ac) : List Value := [U8 a.kd, .int .i64 a.ix, .int .i64 a.nw, U8 a.dr]
def Ac.ok (a : Ac) : Prop := (-9223372036854775808 ≤ a.ix ∧ a.ix ≤ 9223372036854775807) ∧ (-9223372036854775808 ≤ a.nw ∧ a.nw ≤ 9223372036854775807)
/-- Acts that lie in a world. -/
def AsAt (w : World) (v : Value) (l : List Ac) : Prop := ∃ a cap, v = .slice a l.length cap ∧ l.length ≤ 9223372036854775807 ∧ (∀ x ∈ l, x.ok) ∧ (l = [] ∨ ∃ b off, a = some ⟨b, off, none⟩ ∧ ∀ k x j u, l[k]? = some x → (acC x)[j]? = some u → w.cell? ⟨b, off + k * 4 + j, none⟩ = some u)
theorem AsAt.mono {w w' : World} {v : Value} {l : List Ac} {L : List Ent} (h : AsAt w v l) (hc : Cl w [] L w') : AsAt w' v l := by
  obtain ⟨a, cap, h1, h2, h3, h4⟩ := h
  refine ⟨a, cap, h1, h2, h3, ?_⟩
  rcases h4 with h4 | ⟨b, off, h4, h5⟩
  · exact .inl h4
  · exact .inr ⟨b, off, h4, fun k x j u hx hu => cell_keep hc (h5 k x j u hx hu) (by simp)⟩
theorem AsAt.len {w : World} {v : Value} {l : List Ac} (h : AsAt w v l) : ∃ a cap, v = .slice a l.length cap := by
  obtain ⟨a, cap, h1, _⟩ := h
  exact ⟨a, cap, h1⟩
/-- As the walk writes places. -/
theorem AsAt.place {w : World} {v : Value} {l : List Ac} (h : AsAt w v l) (h0 : l ≠ []) : ∃ b off cap, v = .slice (some ⟨b, off, none⟩) l.length cap ∧ (∀ x ∈ l, x.ok) ∧ ∀ (k : Nat) x j u, l[k]? = some x → (acC x)[j]? = some u → w.cell? ⟨b, off + (k : Int).toNat * 4 + j, none⟩ = some u := by
  obtain ⟨a, cap, h1, h2, h3, h4⟩ := h
  rcases h4 with h4 | ⟨b, off, rfl, h5⟩
  · exact absurd h4 h0
  · exact ⟨b, off, cap, h1, h3, fun k x j u hx hu => by rw [Int.toNat_natCast]; exact h5 k x j u hx hu⟩
/-- What is known of all the peers at a tick, by which of them were Bad. -/
def FairAll (p : PS) (bd : List Bool) (now : Int) : Prop := ∀ j, j < 4 → Fair (p.get j) (bd.getD j false) now
theorem FairAll.new : FairAll (PS.new 4) [false, false, false, false] 0 := by
  intro j hj
  have : j = 0 ∨ j = 1 ∨ j = 2 ∨ j = 3 := by omega
  rcases this with rfl | rfl | rfl | rfl <;> exact Fair.zero (Int.le_refl _)
theorem FairAll.later {p : PS} {bd : List Bool} {now t : Int} (h : FairAll p bd now) (ht : now ≤ t) : FairAll p bd t := fun j hj => (h j hj).later ht
theorem PS.get_ne (p : PS) {k j : Nat} (x : Pr) (h : k ≠ j) : (p.set k x).get j = p.get j := by
  simp [PS.get, PS.set, List.getD_eq_getElem?_getD, List.getElem?_set, h]
theorem FairAll.act {f : Pr → Pr} {p : PS} {bd bd' : List Bool} {now : Int} {k : Nat} (h : FairAll p bd now) (hp : p.l.length = 4) (hk : k < 4) (hb : ∀ j, j < 4 → j ≠ k → bd'.getD j false = bd.getD j false) (hf : Fair (f (p.get k)) (bd'.getD k false) now) : FairAll (actS f p (k : Int)) bd' now := by
  rw [actS_in (by omega)]
  intro j hj
  by_cases e : k = j
  · subst e
    rw [PS.get_set _ _ (by omega)]
    exact hf
  · rw [PS.get_ne _ _ e, hb j hj (Ne.symm e)]
    exact h j hj
theorem FairAll.next {p : PS} {bd : List Bool} {now t : Int} (h : FairAll p bd now) : FairAll (nextS p t) bd now := by
  intro j hj
  have : (nextS p t).get j = p.get j := by unfold PS.get; rw [nextS_l]
  rw [this]; exact h j hj
theorem and3 {n : Int} : ∃ k : Nat, k < 4 ∧ n % 4 = (k : Int) := ⟨(n % 4).toNat, by omega, by omega⟩
theorem and_3 (a : Int) : bitsOf .and .i64 a 3 = a % 4 := by
  have e : (BitVec.ofInt 64 a &&& BitVec.ofInt 64 3).toNat = (a % 18446744073709551616).toNat % 4 := by
    rw [BitVec.toNat_and, BitVec.toNat_ofInt, show (BitVec.ofInt 64 3).toNat = 2 ^ 2 - 1 from rfl, Nat.and_two_pow_sub_one_eq_mod]; rfl
  show IntKind.i64.wrap ((BitVec.ofInt 64 a &&& BitVec.ofInt 64 3).toNat : Int) = _
  rw [e, wrap64_in (by omega)]; omega
def bdC (bd : List Bool) : List Value := bd.map Value.bool
theorem bdC_length (bd : List Bool) : (bdC bd).length = bd.length := by simp [bdC]
theorem bd_at {bd : List Bool} {j : Nat} {b : Bool} (h : j < bd.length) (e : bd.getD j false = b) : (bdC bd)[0 + (j : Int).toNat * 1]? = some (.bool b) := by
  rw [Int.toNat_natCast, Nat.zero_add, Nat.mul_one]
  simp [bdC, List.getElem?_eq_getElem h, ← e, List.getD_eq_getElem?_getD]
theorem bd_set {bd : List Bool} {j : Nat} (h : j < bd.length) : spl (bdC bd) (0 + (j : Int).toNat * 1) [.bool true] = bdC (bd.set j true) := by
  rw [Int.toNat_natCast, Nat.zero_add, Nat.mul_one]
  have : spl (bdC bd) j [.bool true] = (bdC bd).set j (.bool true) := by
    rw [List.set_eq_take_append_cons_drop, if_pos (by rw [bdC_length]; exact h)]
    unfold spl
    simp
  rw [this]
  simp [bdC, List.map_set]
theorem bd_get {bd : List Bool} {j : Nat} (h : j < bd.length) : (bd.set j true).getD j false = true := by simp [List.getD_eq_getElem?_getD, h]
theorem bd_ne {bd : List Bool} {j k : Nat} (h : j ≠ k) : (bd.set k true).getD j false = bd.getD j false := by simp [List.getD_eq_getElem?_getD, List.getElem?_set, Ne.symm h]
theorem FairAll.all {p : PS} {bd : List Bool} {now : Int} (h : FairAll p bd now) (hp : p.l.length = 4) (h0 : 0 ≤ now) (h1 : now ≤ 1000000) : ∀ x ∈ p.l, x.upto ≤ near (now + 1024) := by
  intro x hx
  obtain ⟨j, hj, e⟩ := List.mem_iff_getElem.1 hx
  have := (h j (by omega)).1
  have e2 : p.get j = x := by rw [← e]; simp [PS.get, List.getD_eq_getElem?_getD, List.getElem?_eq_getElem hj]
  rw [e2] at this
  rw [near_self (by omega) (by omega)]
  exact this
theorem FairAll.not_barred {p : PS} {bd : List Bool} {now : Int} (h : FairAll p bd now) {j : Nat} (hj : j < 4) (hb : bd.getD j false = false) : ¬ barredP p (j : Int) now := by
  intro hh
  have := ((h j hj).2 hb).1
  have h2 := hh.2.1
  rw [Int.toNat_natCast, this] at h2
  cases h2
end Go.Proofs.Ytahdekllphehkaa
