/- A list of ours behind another one; bits of a number by a mask; no statement of the seat is proved here. -/
import Derived.Test.YtahdekllphehkaaDoorL13
namespace Go.WL
open Go.Spec
set_option linter.unusedVariables false
set_option linter.unusedSimpArgs false
section
variable {P : Program} {n : Nat} {w0 : World} {E : List Nat} {o : Oper} {ρ : Nat → Value} {L : List Ent}

/-- 'append(s, x...)', both of ours. -/
theorem OW.appendRow {ops : Array Oper} {rest : List Oper} {Q : Post} {s x : Operand} {T e : TypeId} {a a2 : Option Nat} {k cap m c2 size bytes : Nat} {g : Bool} {xs ys zs : List Value} {L' : List Ent} {d : Tmp}
    (hw : Region.wanted o (yl n ops ρ) = true) (hd : o.dst = some d) (h : o.op = .call ⟨.builtin .append, #[s, x], #[T, T]⟩)
    (hs : ev n ρ s = rowV a k cap) (hx : ev n ρ x = rowV a2 m c2) (ht : tslice P T = some e) (ti : tinfo P e = some (size, g, bytes)) (tz : tzero P e = some zs)
    (hdel : Del (.row a cap k e size xs) L L') (hm : Ent.row a2 c2 m e size ys ∈ L) (h1 : ∀ u ∈ ys, u.oneCell' = true)
    (hz : zs.length = size) (h0 : 0 < size) (hmx : k + m ≤ maxLen) (hb : (k + m) * bytes ≤ 140737488355328)
    (hn : ∀ a' cap', OW P n w0 E ops rest Q (upd ρ d (rowV a' (k + m) cap')) (.row a' cap' (k + m) e size (xs ++ ys) :: L')) : OW P n w0 E ops (o :: rest) Q ρ L := by
  refine OW.know (ys.length = m * size ∧ (a2 = none → m = 0 ∧ c2 = 0)) (fun w hc => ?_) ?_
  · have hown : w.ownsRow 0 e size (rowV a2 m c2) m ys := hc.own _ hm
    refine ⟨hown.1, fun ha => ?_⟩
    subst ha
    rcases hown.2 with ⟨h2, h3⟩ | ⟨g', cap', cur, h2, _⟩
    · simp only [rowV, Option.map_none, Value.slice.injEq] at h2
      exact ⟨h3, h2.2.2⟩
    · simp [rowV] at h2
  rintro ⟨hl, ha⟩
  cases a2 with
  | some g2 => exact OW.append hw hd h hs hx ht ti tz hdel (row_cells hm) hl h1 hz h0 hmx hb hn
  | none =>
    obtain ⟨rfl, rfl⟩ := ha rfl
    have hy : ys = [] := List.eq_nil_of_length_eq_zero (by rw [hl]; simp)
    subst hy
    refine OW.m hw fun w hc => ?_
    rw [hd]
    have hc' := hc.perm hdel.perm
    have hown : w.ownsRow 0 e size (rowV a k cap) k xs := hc'.own (.row a cap k e size xs) (by simp)
    obtain ⟨i, z, hi, hsz, hby, hzz, hzc⟩ := info_of ti tz
    have hr := run_append_owned_none (P := P) w 0 T o.type e i size (und_slice ht) hi (rowV a k cap) k xs hown
    have hxn : ev n ρ x = .slice none 0 0 := hx
    have h2 := hn a cap
    rw [Nat.add_zero, List.append_nil] at h2
    exact ⟨_, _, w, .inl (by simp [execOp, h, resolve, hs, hxn, invoke, builtin, hr]), hc', h2⟩
theorem CW.cutK {x : Code} {Q : Post} {K : (Nat → Value) → List Ent → Prop} {ρ : Nat → Value} {L : List Ent} (M : (Nat → Value) → List Ent → Prop) (h1 : CW P n w0 E x (thenQ M Q) ρ L) (h2 : ∀ ρ L, M ρ L → K ρ L) : CW P n w0 E x (thenQ K Q) ρ L :=
  CW.mono (fun e ρ L h => by cases e <;> first | exact h2 ρ L h | exact h) h1
end
/-- The lowest bits. -/
theorem bitsOf_low (k : Nat) (hk : k ≤ 62) (a : Int) (h1 : -9223372036854775808 ≤ a) (h2 : a ≤ 9223372036854775807) : bitsOf .and .i64 a (2 ^ k - 1 : Nat) = a % (2 ^ k : Nat) := by
  have hp : (2 : Nat) ^ k ≤ 2 ^ 62 := Nat.pow_le_pow_right (by decide) hk
  have hp62 : (2 : Nat) ^ 62 = 4611686018427387904 := by decide
  have h0 : 0 < (2 : Nat) ^ k := Nat.two_pow_pos k
  have e1 : (BitVec.ofInt 64 ((2 ^ k - 1 : Nat) : Int)).toNat = 2 ^ k - 1 := by
    rw [ofInt_nat, BitVec.toNat_ofNat]; omega
  have e2 : ((BitVec.ofInt 64 a &&& BitVec.ofInt 64 ((2 ^ k - 1 : Nat) : Int)).toNat : Int) = a % (2 ^ k : Nat) := by
    rw [BitVec.toNat_and, e1, Nat.and_two_pow_sub_one_eq_mod, BitVec.toNat_ofInt]
    have hdvd : ((2 ^ k : Nat) : Int) ∣ ((2 ^ 64 : Nat) : Int) := by
      refine ⟨((2 ^ (64 - k) : Nat) : Int), ?_⟩
      rw [← Int.natCast_mul, ← Nat.pow_add, show k + (64 - k) = 64 by omega]
    have h3 : (0 : Int) ≤ a % ((2 ^ 64 : Nat) : Int) := Int.emod_nonneg _ (by decide)
    rw [Int.natCast_emod, Int.toNat_of_nonneg h3, Int.emod_emod_of_dvd _ hdvd]
  unfold bitsOf
  have h4 : 0 ≤ a % ((2 ^ k : Nat) : Int) := Int.emod_nonneg _ (by omega)
  have h5 : a % ((2 ^ k : Nat) : Int) < ((2 ^ k : Nat) : Int) := Int.emod_lt_of_pos _ (by omega)
  show IntKind.i64.wrap _ = _
  rw [show IntKind.bits .i64 = 64 from rfl, e2, wrap64_in (by omega)]
end Go.WL
