/- What each operation yields, one lemma an operation; no statement of the seat is proved here. -/
import Derived.Test.YtahdekllphehkaaDoorL2
import Derived.WalkKit
import Derived.KernelRfl
namespace Go.WL
set_option linter.unusedVariables false
set_option linter.unusedSimpArgs false

section
variable {P : Program} {n : Nat} {w0 : World} {E : List Nat} {o : Oper} {ρ : Nat → Value} {L : List Ent}

theorem yq_val {v : Value} (h : ∀ w, Cl w0 E L w → (execOp (ev n ρ) o).run P w = .ok (.value v) w) : Yq P n w0 E o ρ L v := by
  intro w hc
  rw [h w hc]
  exact ⟨rfl, rfl⟩

theorem yq_move {x : Operand} {v : Value} (h : o.op = .move x) (hx : ev n ρ x = v) : Yq P n w0 E o ρ L v :=
  yq_val fun w _ => by simp [execOp, h, hx]
theorem yq_assign {x : Operand} {v : Value} (h : o.op = .assign x) (hx : ev n ρ x = v) : Yq P n w0 E o ρ L v :=
  yq_val fun w _ => by simp [execOp, h, hx]
theorem yq_pick {c x y : Operand} {b : Bool} {v : Value} (h : o.op = .pick c x y) (hc : ev n ρ c = .bool b) (hx : (bif b then ev n ρ x else ev n ρ y) = v) : Yq P n w0 E o ρ L v :=
  yq_val fun w _ => by cases b <;> simp_all [execOp, asBool]
theorem yq_extract {x : Operand} {i : Nat} {vs : Array Value} {v : Value} (h : o.op = .extract x i) (hx : ev n ρ x = .tuple vs) (hv : vs[i]? = some v) : Yq P n w0 E o ρ L v :=
  yq_val fun w _ => by simp [execOp, h, hx, Instr.extract, hv]
theorem yq_nilCheck {x : Operand} {a : Addr} (h : o.op = .nilCheck x) (hx : ev n ρ x = .pointer (some a)) : Yq P n w0 E o ρ L (.pointer (some a)) :=
  yq_val fun w _ => by simp [execOp, h, hx]

/-! ### int -/
theorem eqGuard_int (op : BinOp) (t : TypeId) (x y : Operand) (k k' : IntKind) (a b : Int) (w : World) : (eqGuard op t x y (.int k a) (.int k' b)).run P w = .ok () w := by
  unfold eqGuard
  cases op <;> simp
theorem eqGuard_str (op : BinOp) (t : TypeId) (x y : Operand) (a b : ByteArray) (w : World) : (eqGuard op t x y (.string a) (.string b)).run P w = .ok () w := by
  unfold eqGuard
  cases op <;> simp
theorem eqGuard_bool (op : BinOp) (t : TypeId) (x y : Operand) (a b : Bool) (w : World) : (eqGuard op t x y (.bool a) (.bool b)).run P w = .ok () w := by
  unfold eqGuard
  cases op <;> simp

theorem wrap64_in {m : Int} (h : -9223372036854775808 ≤ m ∧ m ≤ 9223372036854775807) : IntKind.i64.wrap m = m := by
  simp only [IntKind.wrap, IntKind.bits, IntKind.signed]
  simp
  omega

theorem yq_add {t t' : TypeId} {x y : Operand} {a b : Int} (h : o.op = .binOp .add t x y t') (hx : ev n ρ x = .int .i64 a) (hy : ev n ρ y = .int .i64 b)
    (hr : -9223372036854775808 ≤ a + b ∧ a + b ≤ 9223372036854775807) : Yq P n w0 E o ρ L (.int .i64 (a + b)) :=
  yq_val fun w _ => by simp [execOp, h, hx, hy, eqGuard_int, binOp, Op.intArith, wrap64_in hr]
theorem yq_sub {t t' : TypeId} {x y : Operand} {a b : Int} (h : o.op = .binOp .sub t x y t') (hx : ev n ρ x = .int .i64 a) (hy : ev n ρ y = .int .i64 b)
    (hr : -9223372036854775808 ≤ a - b ∧ a - b ≤ 9223372036854775807) : Yq P n w0 E o ρ L (.int .i64 (a - b)) :=
  yq_val fun w _ => by simp [execOp, h, hx, hy, eqGuard_int, binOp, Op.intArith, wrap64_in hr]
theorem yq_mul {t t' : TypeId} {x y : Operand} {a b : Int} (h : o.op = .binOp .mul t x y t') (hx : ev n ρ x = .int .i64 a) (hy : ev n ρ y = .int .i64 b)
    (hr : -9223372036854775808 ≤ a * b ∧ a * b ≤ 9223372036854775807) : Yq P n w0 E o ρ L (.int .i64 (a * b)) :=
  yq_val fun w _ => by simp [execOp, h, hx, hy, eqGuard_int, binOp, Op.intArith, wrap64_in hr]
/-- The bare sum, whatever it is. -/
theorem yq_add_w {t t' : TypeId} {x y : Operand} {a b : Int} (h : o.op = .binOp .add t x y t') (hx : ev n ρ x = .int .i64 a) (hy : ev n ρ y = .int .i64 b) :
    Yq P n w0 E o ρ L (.int .i64 (IntKind.i64.wrap (a + b))) :=
  yq_val fun w _ => by simp [execOp, h, hx, hy, eqGuard_int, binOp, Op.intArith]
theorem yq_quo {t t' : TypeId} {x y : Operand} {a b : Int} (h : o.op = .binOp .quo t x y t') (hx : ev n ρ x = .int .i64 a) (hy : ev n ρ y = .int .i64 b)
    (hr : 0 ≤ a ∧ 1 ≤ b ∧ a ≤ 9223372036854775807) : Yq P n w0 E o ρ L (.int .i64 (a / b)) := by
  obtain ⟨h0, h1, h2⟩ := hr
  have e : a.tdiv b = a / b := Int.tdiv_eq_ediv_of_nonneg h0
  have hb : b ≠ 0 := by omega
  have hle : a / b ≤ a := Int.ediv_le_self b h0
  have hge : 0 ≤ a / b := Int.ediv_nonneg h0 (by omega)
  exact yq_val fun w _ => by simp [execOp, h, hx, hy, eqGuard_int, binOp, Op.intDiv, hb, e, wrap64_in (m := a / b) ⟨by omega, by omega⟩]
theorem yq_rem {t t' : TypeId} {x y : Operand} {a b : Int} (h : o.op = .binOp .rem t x y t') (hx : ev n ρ x = .int .i64 a) (hy : ev n ρ y = .int .i64 b)
    (hr : 0 ≤ a ∧ 1 ≤ b) : Yq P n w0 E o ρ L (.int .i64 (a % b)) := by
  obtain ⟨h0, h1⟩ := hr
  have e : a.tmod b = a % b := Int.tmod_eq_emod_of_nonneg h0
  have hb : b ≠ 0 := by omega
  exact yq_val fun w _ => by simp [execOp, h, hx, hy, eqGuard_int, binOp, Op.intDiv, hb, e]
theorem yq_lss {k : IntKind} {t t' : TypeId} {x y : Operand} {a b : Int} (h : o.op = .binOp .lss t x y t') (hx : ev n ρ x = .int k a) (hy : ev n ρ y = .int k b) : Yq P n w0 E o ρ L (.bool (decide (a < b))) :=
  yq_val fun w _ => by simp [execOp, h, hx, hy, eqGuard_int, binOp, Op.intCmp]
theorem yq_leq {k : IntKind} {t t' : TypeId} {x y : Operand} {a b : Int} (h : o.op = .binOp .leq t x y t') (hx : ev n ρ x = .int k a) (hy : ev n ρ y = .int k b) : Yq P n w0 E o ρ L (.bool (decide (a ≤ b))) :=
  yq_val fun w _ => by simp [execOp, h, hx, hy, eqGuard_int, binOp, Op.intCmp]
theorem yq_gtr {k : IntKind} {t t' : TypeId} {x y : Operand} {a b : Int} (h : o.op = .binOp .gtr t x y t') (hx : ev n ρ x = .int k a) (hy : ev n ρ y = .int k b) : Yq P n w0 E o ρ L (.bool (decide (b < a))) :=
  yq_val fun w _ => by simp [execOp, h, hx, hy, eqGuard_int, binOp, Op.intCmp]
theorem yq_geq {k : IntKind} {t t' : TypeId} {x y : Operand} {a b : Int} (h : o.op = .binOp .geq t x y t') (hx : ev n ρ x = .int k a) (hy : ev n ρ y = .int k b) : Yq P n w0 E o ρ L (.bool (decide (b ≤ a))) :=
  yq_val fun w _ => by simp [execOp, h, hx, hy, eqGuard_int, binOp, Op.intCmp]
theorem yq_eql {k : IntKind} {t t' : TypeId} {x y : Operand} {a b : Int} (h : o.op = .binOp .eql t x y t') (hx : ev n ρ x = .int k a) (hy : ev n ρ y = .int k b) : Yq P n w0 E o ρ L (.bool (decide (a = b))) :=
  yq_val fun w _ => by simp [execOp, h, hx, hy, eqGuard_int, binOp, Op.intCmp]; rfl
theorem yq_neq {k : IntKind} {t t' : TypeId} {x y : Operand} {a b : Int} (h : o.op = .binOp .neq t x y t') (hx : ev n ρ x = .int k a) (hy : ev n ρ y = .int k b) : Yq P n w0 E o ρ L (.bool (decide (a ≠ b))) :=
  yq_val fun w _ => by
    simp [execOp, h, hx, hy, eqGuard_int, binOp, Op.intCmp]
    by_cases e : a = b <;> simp [e]

/-! ### unsigned kinds, by Lean's own -/
theorem wrap_u64 (m : Int) : IntKind.u64.wrap m = m % 18446744073709551616 := by simp [IntKind.wrap, IntKind.bits, IntKind.signed]
theorem wrap_u32 (m : Int) : IntKind.u32.wrap m = m % 4294967296 := by simp [IntKind.wrap, IntKind.bits, IntKind.signed]
theorem wrap_u8 (m : Int) : IntKind.u8.wrap m = m % 256 := by simp [IntKind.wrap, IntKind.bits, IntKind.signed]
abbrev U32 (x : UInt32) : Value := .int .u32 (x.toNat : Int)
abbrev U64 (x : UInt64) : Value := .int .u64 (x.toNat : Int)
abbrev U8 (x : UInt8) : Value := .int .u8 (x.toNat : Int)

theorem yq_add_u32 {t t' : TypeId} {x y : Operand} {a b : UInt32} (h : o.op = .binOp .add t x y t') (hx : ev n ρ x = U32 a) (hy : ev n ρ y = U32 b) : Yq P n w0 E o ρ L (U32 (a + b)) :=
  yq_val fun w _ => by
    have e : IntKind.u32.wrap ((a.toNat : Int) + b.toNat) = ((a + b).toNat : Int) := by
      rw [wrap_u32, UInt32.toNat_add]; omega
    simp [execOp, h, hx, hy, eqGuard_int, binOp, Op.intArith, e]
theorem ofInt_nat (w m : Nat) : BitVec.ofInt w (m : Int) = BitVec.ofNat w m := by
  rw [BitVec.ofInt_natCast]
theorem yq_xor_u32 {t t' : TypeId} {x y : Operand} {a b : UInt32} (h : o.op = .binOp .xor t x y t') (hx : ev n ρ x = U32 a) (hy : ev n ρ y = U32 b) : Yq P n w0 E o ρ L (U32 (a ^^^ b)) :=
  yq_val fun w _ => by
    have e : IntKind.u32.wrap ((BitVec.ofInt 32 (a.toNat : Int) ^^^ BitVec.ofInt 32 (b.toNat : Int)).toNat : Int) = ((a ^^^ b).toNat : Int) := by
      rw [wrap_u32, ofInt_nat, ofInt_nat, BitVec.toNat_xor, BitVec.toNat_ofNat, BitVec.toNat_ofNat, UInt32.toNat_xor, Nat.mod_eq_of_lt a.toNat_lt, Nat.mod_eq_of_lt b.toNat_lt]
      have := (a ^^^ b).toNat_lt
      rw [UInt32.toNat_xor] at this
      omega
    simp only [execOp, h, hx, hy, Sem.run_bind, eqGuard_int]
    exact congrArg (fun z => Result.ok (Next.value (Value.int .u32 z)) w) e
theorem yq_and_u32 {t t' : TypeId} {x y : Operand} {a b : UInt32} (h : o.op = .binOp .and t x y t') (hx : ev n ρ x = U32 a) (hy : ev n ρ y = U32 b) : Yq P n w0 E o ρ L (U32 (a &&& b)) :=
  yq_val fun w _ => by
    have e : IntKind.u32.wrap ((BitVec.ofInt 32 (a.toNat : Int) &&& BitVec.ofInt 32 (b.toNat : Int)).toNat : Int) = ((a &&& b).toNat : Int) := by
      rw [wrap_u32, ofInt_nat, ofInt_nat, BitVec.toNat_and, BitVec.toNat_ofNat, BitVec.toNat_ofNat, UInt32.toNat_and, Nat.mod_eq_of_lt a.toNat_lt, Nat.mod_eq_of_lt b.toNat_lt]
      have := (a &&& b).toNat_lt
      rw [UInt32.toNat_and] at this
      omega
    simp only [execOp, h, hx, hy, Sem.run_bind, eqGuard_int]
    exact congrArg (fun z => Result.ok (Next.value (Value.int .u32 z)) w) e
theorem yq_or_u32 {t t' : TypeId} {x y : Operand} {a b : UInt32} (h : o.op = .binOp .or t x y t') (hx : ev n ρ x = U32 a) (hy : ev n ρ y = U32 b) : Yq P n w0 E o ρ L (U32 (a ||| b)) :=
  yq_val fun w _ => by
    have e : IntKind.u32.wrap ((BitVec.ofInt 32 (a.toNat : Int) ||| BitVec.ofInt 32 (b.toNat : Int)).toNat : Int) = ((a ||| b).toNat : Int) := by
      rw [wrap_u32, ofInt_nat, ofInt_nat, BitVec.toNat_or, BitVec.toNat_ofNat, BitVec.toNat_ofNat, UInt32.toNat_or, Nat.mod_eq_of_lt a.toNat_lt, Nat.mod_eq_of_lt b.toNat_lt]
      have := (a ||| b).toNat_lt
      rw [UInt32.toNat_or] at this
      omega
    simp only [execOp, h, hx, hy, Sem.run_bind, eqGuard_int]
    exact congrArg (fun z => Result.ok (Next.value (Value.int .u32 z)) w) e
/-- '^x'. -/
theorem yq_not_u32 {t : TypeId} {x : Operand} {a : UInt32} (h : o.op = .unOp .xor t x) (hx : ev n ρ x = U32 a) : Yq P n w0 E o ρ L (U32 (a ^^^ 4294967295)) :=
  yq_val fun w _ => by
    have e : IntKind.u32.wrap ((BitVec.ofInt 32 (4294967295 : Int) ^^^ BitVec.ofInt 32 (a.toNat : Int)).toNat : Int) = ((a ^^^ 4294967295).toNat : Int) := by
      rw [wrap_u32, ofInt_nat, BitVec.toNat_xor, BitVec.toNat_ofNat, UInt32.toNat_xor, Nat.mod_eq_of_lt a.toNat_lt, Nat.xor_comm]
      have := (a ^^^ 4294967295).toNat_lt
      rw [UInt32.toNat_xor] at this
      have e2 : (BitVec.ofInt 32 (4294967295 : Int)).toNat = (4294967295 : UInt32).toNat := by decide
      rw [e2]
      omega
    have e3 : (if IntKind.u32.signed = true then (-1 : Int) else IntKind.u32.max) = 4294967295 := by decide
    simp only [execOp, h, hx, Sem.run_bind, Op.unary, e3]
    exact congrArg (fun z => Result.ok (Next.value (Value.int .u32 z)) w) e
theorem yq_shl_u32 {t t' : TypeId} {x y : Operand} {a : UInt32} {k : IntKind} {s : Nat} (h : o.op = .binOp .shl t x y t') (hx : ev n ρ x = U32 a) (hy : ev n ρ y = .int k (s : Int)) (hs : s < 32) : Yq P n w0 E o ρ L (U32 (a <<< UInt32.ofNat s)) :=
  yq_val fun w _ => by
    have e : IntKind.u32.wrap ((a.toNat : Int) * 2 ^ s) = ((a <<< UInt32.ofNat s).toNat : Int) := by
      rw [wrap_u32, UInt32.toNat_shiftLeft, UInt32.toNat_ofNat', Nat.shiftLeft_eq]
      rw [Nat.mod_eq_of_lt (show s < 2 ^ 32 by omega), Nat.mod_eq_of_lt hs, Int.natCast_emod, Int.natCast_mul, Int.natCast_pow]
      rfl
    have hm : min s 32 = s := by omega
    have hneg : ¬ ((s : Int) < 0) := by omega
    simp only [execOp, h, hx, hy, Sem.run_bind, eqGuard_int, binOp, Op.shift, hneg, if_false, Int.toNat_natCast, IntKind.bits, hm]
    exact congrArg (fun z => Result.ok (Next.value (Value.int .u32 z)) w) e
theorem yq_shr_u32 {t t' : TypeId} {x y : Operand} {a : UInt32} {k : IntKind} {s : Nat} (h : o.op = .binOp .shr t x y t') (hx : ev n ρ x = U32 a) (hy : ev n ρ y = .int k (s : Int)) (hs : s < 32) : Yq P n w0 E o ρ L (U32 (a >>> UInt32.ofNat s)) :=
  yq_val fun w _ => by
    have e : (a.toNat : Int).fdiv (2 ^ s) = ((a >>> UInt32.ofNat s).toNat : Int) := by
      rw [UInt32.toNat_shiftRight, UInt32.toNat_ofNat', Nat.shiftRight_eq_div_pow]
      rw [Nat.mod_eq_of_lt (show s < 2 ^ 32 by omega), Nat.mod_eq_of_lt hs, Int.fdiv_eq_ediv_of_nonneg _ (by exact_mod_cast Nat.zero_le _)]
      push_cast
      rfl
    have hm : min s 32 = s := by omega
    have hneg : ¬ ((s : Int) < 0) := by omega
    simp only [execOp, h, hx, hy, Sem.run_bind, eqGuard_int, binOp, Op.shift, hneg, if_false, Int.toNat_natCast, IntKind.bits, hm]
    exact congrArg (fun z => Result.ok (Next.value (Value.int .u32 z)) w) e

/-! ### results told by an equation -/
theorem yq_add_e {k : IntKind} {t t' : TypeId} {x y : Operand} {a b r : Int} (h : o.op = .binOp .add t x y t') (hx : ev n ρ x = .int k a) (hy : ev n ρ y = .int k b) (hr : k.wrap (a + b) = r) : Yq P n w0 E o ρ L (.int k r) :=
  yq_val fun w _ => by simp [execOp, h, hx, hy, eqGuard_int, binOp, Op.intArith, hr]
theorem yq_sub_e {k : IntKind} {t t' : TypeId} {x y : Operand} {a b r : Int} (h : o.op = .binOp .sub t x y t') (hx : ev n ρ x = .int k a) (hy : ev n ρ y = .int k b) (hr : k.wrap (a - b) = r) : Yq P n w0 E o ρ L (.int k r) :=
  yq_val fun w _ => by simp [execOp, h, hx, hy, eqGuard_int, binOp, Op.intArith, hr]
theorem yq_mul_e {k : IntKind} {t t' : TypeId} {x y : Operand} {a b r : Int} (h : o.op = .binOp .mul t x y t') (hx : ev n ρ x = .int k a) (hy : ev n ρ y = .int k b) (hr : k.wrap (a * b) = r) : Yq P n w0 E o ρ L (.int k r) :=
  yq_val fun w _ => by simp [execOp, h, hx, hy, eqGuard_int, binOp, Op.intArith, hr]
theorem yq_quo_e {k : IntKind} {t t' : TypeId} {x y : Operand} {a b r : Int} (h : o.op = .binOp .quo t x y t') (hx : ev n ρ x = .int k a) (hy : ev n ρ y = .int k b) (hb : b ≠ 0) (hr : k.wrap (a.tdiv b) = r) : Yq P n w0 E o ρ L (.int k r) :=
  yq_val fun w _ => by simp [execOp, h, hx, hy, eqGuard_int, binOp, Op.intDiv, hb, hr]
theorem yq_rem_e {k : IntKind} {t t' : TypeId} {x y : Operand} {a b r : Int} (h : o.op = .binOp .rem t x y t') (hx : ev n ρ x = .int k a) (hy : ev n ρ y = .int k b) (hb : b ≠ 0) (hr : a.tmod b = r) : Yq P n w0 E o ρ L (.int k r) :=
  yq_val fun w _ => by simp [execOp, h, hx, hy, eqGuard_int, binOp, Op.intDiv, hb, hr]
/-- The three of '&', '|', '^': what their bits come to. -/
def bitsOf (op : BinOp) (k : IntKind) (x y : Int) : Int :=
  match op with
  | .and => k.wrap (BitVec.ofInt k.bits x &&& BitVec.ofInt k.bits y).toNat
  | .or => k.wrap (BitVec.ofInt k.bits x ||| BitVec.ofInt k.bits y).toNat
  | .xor => k.wrap (BitVec.ofInt k.bits x ^^^ BitVec.ofInt k.bits y).toNat
  | _ => 0
theorem yq_and_e {k : IntKind} {t t' : TypeId} {x y : Operand} {a b r : Int} (h : o.op = .binOp .and t x y t') (hx : ev n ρ x = .int k a) (hy : ev n ρ y = .int k b) (hr : bitsOf .and k a b = r) : Yq P n w0 E o ρ L (.int k r) :=
  yq_val fun w _ => by simp [execOp, h, hx, hy, eqGuard_int, binOp, Op.intBits, bitsOf, ← hr]
theorem yq_or_e {k : IntKind} {t t' : TypeId} {x y : Operand} {a b r : Int} (h : o.op = .binOp .or t x y t') (hx : ev n ρ x = .int k a) (hy : ev n ρ y = .int k b) (hr : bitsOf .or k a b = r) : Yq P n w0 E o ρ L (.int k r) :=
  yq_val fun w _ => by simp [execOp, h, hx, hy, eqGuard_int, binOp, Op.intBits, bitsOf, ← hr]
theorem yq_shl_e {k k' : IntKind} {t t' : TypeId} {x y : Operand} {a b r : Int} (h : o.op = .binOp .shl t x y t') (hx : ev n ρ x = .int k a) (hy : ev n ρ y = .int k' b) (hb : 0 ≤ b) (hr : k.wrap (a * 2 ^ min b.toNat k.bits) = r) : Yq P n w0 E o ρ L (.int k r) :=
  yq_val fun w _ => by
    have hneg : ¬ b < 0 := by omega
    simp [execOp, h, hx, hy, eqGuard_int, binOp, Op.shift, hneg, hr]
theorem yq_shr_e {k k' : IntKind} {t t' : TypeId} {x y : Operand} {a b r : Int} (h : o.op = .binOp .shr t x y t') (hx : ev n ρ x = .int k a) (hy : ev n ρ y = .int k' b) (hb : 0 ≤ b) (hr : a.fdiv (2 ^ min b.toNat k.bits) = r) : Yq P n w0 E o ρ L (.int k r) :=
  yq_val fun w _ => by
    have hneg : ¬ b < 0 := by omega
    simp only [execOp, h, hx, hy, Sem.run_bind, eqGuard_int, binOp, Op.shift, hneg, if_false]
    exact congrArg (fun z => Result.ok (Next.value (Value.int k z)) w) hr
theorem yq_neg {t : TypeId} {x : Operand} {a : Int} (h : o.op = .unOp .neg t x) (hx : ev n ρ x = .int .i64 a) (hr : -9223372036854775807 ≤ a ∧ a ≤ 9223372036854775807) : Yq P n w0 E o ρ L (.int .i64 (-a)) :=
  yq_val fun w _ => by simp [execOp, h, hx, Op.unary, Op.intArith, wrap64_in (m := -a) ⟨by omega, by omega⟩]
theorem yq_not {t : TypeId} {x : Operand} {b : Bool} (h : o.op = .unOp .not t x) (hx : ev n ρ x = .bool b) : Yq P n w0 E o ρ L (.bool (!b)) :=
  yq_val fun w _ => by simp [execOp, h, hx, Op.unary]
theorem run_und {t : TypeId} {d : TypeDesc} (h : P.underlying t = some d) (w : World) : (underlying t).run P w = .ok d w := by
  simp [underlying, program, Sem.run, h]
theorem yq_conv_int {k k' : IntKind} {s t : TypeId} {d : TypeDesc} {x : Operand} {a r : Int} (h : o.op = .convert s t x) (hs : P.underlying s = some d) (ht : P.underlying t = some (.int k)) (hx : ev n ρ x = .int k' a) (hr : k.wrap a = r) : Yq P n w0 E o ρ L (.int k r) :=
  yq_val fun w _ => by simp [execOp, h, hx, convert, run_und hs, run_und ht, Conv.intToInt, hr]

end
end Go.WL

namespace Go.WL
/-! ### Slots that are known -/
def updL (ρ : Nat → Value) : List (Nat × Value) → (Nat → Value)
  | [] => ρ
  | (t, v) :: r => upd (updL ρ r) t v
def AllAt (ρ : Nat → Value) : List (Nat × Value) → Prop
  | [] => True
  | (t, v) :: r => ρ t = v ∧ AllAt ρ r
/-- The slots of l hold what l says. -/
def Has (ρ : Nat → Value) (l : List (Nat × Value)) : Prop := ∃ ρ', ρ = updL ρ' l
theorem Has.mk {ρ : Nat → Value} {l : List (Nat × Value)} (h : AllAt ρ l) : Has ρ l := by
  refine ⟨ρ, ?_⟩
  induction l with
  | nil => rfl
  | cons p r ih =>
    obtain ⟨h1, h2⟩ := h
    rw [updL, ← ih h2, upd_self h1]

/-! ### Calls -/
section
variable {P : Program} {n : Nat} {w0 : World} {E : List Nat} {o : Oper} {ρ : Nat → Value} {L : List Ent}

inductive Args (n : Nat) (ρ : Nat → Value) : List Operand → List Value → Prop where
  | nil : Args n ρ [] []
  | cons {x : Operand} {v : Value} {xs : List Operand} {vs : List Value} : ev n ρ x = v → Args n ρ xs vs → Args n ρ (x :: xs) (v :: vs)
theorem Args.eq {xs : List Operand} {vs : List Value} (h : Args n ρ xs vs) : xs.map (ev n ρ) = vs := by
  induction h with
  | nil => rfl
  | cons h _ ih => simp [h, ih]

theorem run_callFunc {f : FuncId} {fn : Func} (hf : P.funcs[f]? = some fn) (hn : (fn.name == "runtime.NumGoroutine") = false) (hb : fn.body.isNone = false) (args : Array Value) (w : World) :
    (callFunc f args).run P w = .ok (.enter f args) w := by
  have hn' : ¬ fn.name = "runtime.NumGoroutine" := by simpa using hn
  have hb' : ¬ fn.body = none := by cases hq : fn.body <;> simp_all
  unfold callFunc
  simp [program, Sem.run, hf, hn', hb']

theorem run_call {c : Operand} {xs : List Operand} {ats : Array TypeId} {f : FuncId} {cap : List Value} {vs : List Value} (h : o.op = .call ⟨.value c, xs.toArray, ats⟩)
    (hc : ev n ρ c = .func (.func f) #[] cap.toArray) (hx : Args n ρ xs vs) (he : ∀ args w, (callFunc f args).run P w = .ok (.enter f args) w) (w : World) :
    (execOp (ev n ρ) o).run P w = .ok (.enter f (vs ++ cap).toArray) w := by
  have h1 : xs.toArray.map (ev n ρ) = vs.toArray := by rw [List.map_toArray, hx.eq]
  simp [execOp, h, resolve, hc, h1, Deferred.ofValue, invoke, he]

theorem yq_call {c : Operand} {xs : List Operand} {ats : Array TypeId} {f : FuncId} {vs : List Value} {v : Value} (h : o.op = .call ⟨.value c, xs.toArray, ats⟩)
    (hc : ev n ρ c = .func (.func f) #[] #[]) (hx : Args n ρ xs vs) (he : ∀ args w, (callFunc f args).run P w = .ok (.enter f args) w)
    (hk : ∀ w, Cl w0 E L w → Calls P f vs.toArray w fun e w' => e = .returned v ∧ Cl w [] [] w') : Yq P n w0 E o ρ L v := by
  intro w hw
  have := run_call (P := P) (cap := []) h hc hx he w
  rw [List.append_nil] at this
  rw [this]
  exact ⟨rfl, (hk w hw).mono fun e w' ⟨h1, h2⟩ => ⟨h1, by simpa using hw.call h2⟩⟩

/-- A closure. -/
theorem yq_callc {c : Operand} {xs : List Operand} {ats : Array TypeId} {f : FuncId} {cap vs : List Value} {v : Value} (h : o.op = .call ⟨.value c, xs.toArray, ats⟩)
    (hc : ev n ρ c = .func (.func f) #[] cap.toArray) (hx : Args n ρ xs vs) (he : ∀ args w, (callFunc f args).run P w = .ok (.enter f args) w)
    (hk : ∀ w, Cl w0 E L w → Calls P f (vs ++ cap).toArray w fun e w' => e = .returned v ∧ Cl w [] [] w') : Yq P n w0 E o ρ L v := by
  intro w hw
  rw [run_call (P := P) h hc hx he w]
  exact ⟨rfl, (hk w hw).mono fun e w' ⟨h1, h2⟩ => ⟨h1, by simpa using hw.call h2⟩⟩

/-- A call that hands out new memory: K tells of it. -/
theorem OW.calln {ops : Array Oper} {rest : List Oper} {Q : Post} {c : Operand} {xs : List Operand} {ats : Array TypeId} {f : FuncId} {vs : List Value} {d : Tmp} {K : Value → List Ent → Prop}
    (hw : Region.wanted o (yl n ops ρ) = true) (hd : o.dst = some d) (h : o.op = .call ⟨.value c, xs.toArray, ats⟩)
    (hc : ev n ρ c = .func (.func f) #[] #[]) (hx : Args n ρ xs vs) (he : ∀ args w, (callFunc f args).run P w = .ok (.enter f args) w)
    (hk : ∀ w, Cl w0 E L w → Calls P f vs.toArray w fun e w' => ∃ v L1, e = .returned v ∧ Cl w [] L1 w' ∧ K v L1)
    (hn : ∀ v L1, K v L1 → OW P n w0 E ops rest Q (upd ρ d v) (L1 ++ L)) : OW P n w0 E ops (o :: rest) Q ρ L := by
  have hr : ∀ w, (execOp (ev n ρ) o).run P w = .ok (.enter f vs.toArray) w := fun w => by
    have := run_call (P := P) (cap := []) h hc hx he w
    rwa [List.append_nil] at this
  exact OW.call hw hd hr fun w hw => (hk w hw).mono fun e w' ⟨v, L1, h1, h2, h3⟩ => ⟨v, L1 ++ L, h1, hw.call h2, hn v L1 h3⟩
end
end Go.WL

namespace Go.WL
theorem then_exit {N : (Nat → Value) → List Ent → Prop} {id : Nat} {Q : Post} {ρ : Nat → Value} {L : List Ent} (h : Q (.exit id) ρ L) : thenQ N Q (.exit id) ρ L := h
theorem blockQ_miss {id id' : Nat} {Q : Post} {ρ : Nat → Value} {L : List Ent} (hne : Nat.beq id' id = false) (h : Q (.exit id') ρ L) : blockQ id Q (.exit id') ρ L := by
  have : ¬ id' = id := fun e => by subst e; simp at hne
  simp only [blockQ, this, if_false]; exact h
theorem blockQ_hit {id : Nat} {Q : Post} {ρ : Nat → Value} {L : List Ent} (h : Q .normal ρ L) : blockQ id Q (.exit id) ρ L := by
  simp only [blockQ, if_true]; exact h
end Go.WL
