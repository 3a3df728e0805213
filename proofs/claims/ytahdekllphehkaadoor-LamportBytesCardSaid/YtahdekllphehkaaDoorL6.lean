/- What operations on unsigned kinds yield, by Lean's own; no statement of the seat is proved here. -/
import Derived.Test.YtahdekllphehkaaDoorL5
namespace Go.WL
set_option linter.unusedVariables false
set_option linter.unusedSimpArgs false
section
variable {P : Program} {n : Nat} {w0 : World} {E : List Nat} {o : Oper} {ρ : Nat → Value} {L : List Ent}

theorem yq_add_u64 {t t' : TypeId} {x y : Operand} {a b : UInt64} (h : o.op = .binOp .add t x y t') (hx : ev n ρ x = U64 a) (hy : ev n ρ y = U64 b) : Yq P n w0 E o ρ L (U64 (a + b)) :=
  yq_add_e h hx hy (by rw [wrap_u64, UInt64.toNat_add]; omega)
theorem yq_sub_u64 {t t' : TypeId} {x y : Operand} {a b : UInt64} (h : o.op = .binOp .sub t x y t') (hx : ev n ρ x = U64 a) (hy : ev n ρ y = U64 b) : Yq P n w0 E o ρ L (U64 (a - b)) :=
  yq_sub_e h hx hy (by rw [wrap_u64, UInt64.toNat_sub]; have := a.toNat_lt; have := b.toNat_lt; omega)
theorem yq_mul_u64 {t t' : TypeId} {x y : Operand} {a b : UInt64} (h : o.op = .binOp .mul t x y t') (hx : ev n ρ x = U64 a) (hy : ev n ρ y = U64 b) : Yq P n w0 E o ρ L (U64 (a * b)) :=
  yq_mul_e h hx hy (by rw [wrap_u64, UInt64.toNat_mul, Int.natCast_emod, Int.natCast_mul]; rfl)
theorem yq_quo_u64 {t t' : TypeId} {x y : Operand} {a b : UInt64} (h : o.op = .binOp .quo t x y t') (hx : ev n ρ x = U64 a) (hy : ev n ρ y = U64 b) (hb : b.toNat ≠ 0) : Yq P n w0 E o ρ L (U64 (a / b)) :=
  yq_quo_e h hx hy (by omega) (by
    rw [Int.tdiv_eq_ediv_of_nonneg (by omega), wrap_u64, UInt64.toNat_div, ← Int.natCast_ediv]
    have h1 := Nat.div_le_self a.toNat b.toNat
    have h2 := a.toNat_lt
    generalize a.toNat / b.toNat = q at *
    omega)
theorem yq_rem_u64 {t t' : TypeId} {x y : Operand} {a b : UInt64} (h : o.op = .binOp .rem t x y t') (hx : ev n ρ x = U64 a) (hy : ev n ρ y = U64 b) (hb : b.toNat ≠ 0) : Yq P n w0 E o ρ L (U64 (a % b)) :=
  yq_rem_e h hx hy (by omega) (by rw [Int.tmod_eq_emod_of_nonneg (by omega), UInt64.toNat_mod, Int.natCast_emod])
theorem bits_xor_u64 (a b : UInt64) : IntKind.u64.wrap ((BitVec.ofInt 64 (a.toNat : Int) ^^^ BitVec.ofInt 64 (b.toNat : Int)).toNat : Int) = ((a ^^^ b).toNat : Int) := by
  rw [wrap_u64, ofInt_nat, ofInt_nat, BitVec.toNat_xor, BitVec.toNat_ofNat, BitVec.toNat_ofNat, UInt64.toNat_xor, Nat.mod_eq_of_lt a.toNat_lt, Nat.mod_eq_of_lt b.toNat_lt]
  have := (a ^^^ b).toNat_lt
  rw [UInt64.toNat_xor] at this
  omega
theorem yq_xor_u64 {t t' : TypeId} {x y : Operand} {a b : UInt64} (h : o.op = .binOp .xor t x y t') (hx : ev n ρ x = U64 a) (hy : ev n ρ y = U64 b) : Yq P n w0 E o ρ L (U64 (a ^^^ b)) :=
  yq_val fun w _ => by
    simp only [execOp, h, hx, hy, Sem.run_bind, eqGuard_int]
    exact congrArg (fun z => Result.ok (Next.value (Value.int .u64 z)) w) (bits_xor_u64 a b)
theorem bits_and_u64 (a b : UInt64) : IntKind.u64.wrap ((BitVec.ofInt 64 (a.toNat : Int) &&& BitVec.ofInt 64 (b.toNat : Int)).toNat : Int) = ((a &&& b).toNat : Int) := by
  rw [wrap_u64, ofInt_nat, ofInt_nat, BitVec.toNat_and, BitVec.toNat_ofNat, BitVec.toNat_ofNat, UInt64.toNat_and, Nat.mod_eq_of_lt a.toNat_lt, Nat.mod_eq_of_lt b.toNat_lt]
  have := (a &&& b).toNat_lt
  rw [UInt64.toNat_and] at this
  omega
theorem yq_and_u64 {t t' : TypeId} {x y : Operand} {a b : UInt64} (h : o.op = .binOp .and t x y t') (hx : ev n ρ x = U64 a) (hy : ev n ρ y = U64 b) : Yq P n w0 E o ρ L (U64 (a &&& b)) :=
  yq_val fun w _ => by
    simp only [execOp, h, hx, hy, Sem.run_bind, eqGuard_int]
    exact congrArg (fun z => Result.ok (Next.value (Value.int .u64 z)) w) (bits_and_u64 a b)
theorem bits_or_u64 (a b : UInt64) : IntKind.u64.wrap ((BitVec.ofInt 64 (a.toNat : Int) ||| BitVec.ofInt 64 (b.toNat : Int)).toNat : Int) = ((a ||| b).toNat : Int) := by
  rw [wrap_u64, ofInt_nat, ofInt_nat, BitVec.toNat_or, BitVec.toNat_ofNat, BitVec.toNat_ofNat, UInt64.toNat_or, Nat.mod_eq_of_lt a.toNat_lt, Nat.mod_eq_of_lt b.toNat_lt]
  have := (a ||| b).toNat_lt
  rw [UInt64.toNat_or] at this
  omega
theorem yq_or_u64 {t t' : TypeId} {x y : Operand} {a b : UInt64} (h : o.op = .binOp .or t x y t') (hx : ev n ρ x = U64 a) (hy : ev n ρ y = U64 b) : Yq P n w0 E o ρ L (U64 (a ||| b)) :=
  yq_val fun w _ => by
    simp only [execOp, h, hx, hy, Sem.run_bind, eqGuard_int]
    exact congrArg (fun z => Result.ok (Next.value (Value.int .u64 z)) w) (bits_or_u64 a b)
theorem yq_shl_u64 {t t' : TypeId} {x y : Operand} {a : UInt64} {k : IntKind} {s : Nat} (h : o.op = .binOp .shl t x y t') (hx : ev n ρ x = U64 a) (hy : ev n ρ y = .int k (s : Int)) (hs : s < 64) : Yq P n w0 E o ρ L (U64 (a <<< UInt64.ofNat s)) :=
  yq_shl_e h hx hy (by omega) (by
    have hm : min s 64 = s := by omega
    rw [Int.toNat_natCast]
    simp only [IntKind.bits, hm]
    rw [wrap_u64, UInt64.toNat_shiftLeft, UInt64.toNat_ofNat', Nat.shiftLeft_eq]
    rw [Nat.mod_eq_of_lt (show s < 2 ^ 64 by omega), Nat.mod_eq_of_lt hs, Int.natCast_emod, Int.natCast_mul, Int.natCast_pow]
    rfl)
theorem yq_shr_u64 {t t' : TypeId} {x y : Operand} {a : UInt64} {k : IntKind} {s : Nat} (h : o.op = .binOp .shr t x y t') (hx : ev n ρ x = U64 a) (hy : ev n ρ y = .int k (s : Int)) (hs : s < 64) : Yq P n w0 E o ρ L (U64 (a >>> UInt64.ofNat s)) :=
  yq_shr_e h hx hy (by omega) (by
    have hm : min s 64 = s := by omega
    rw [Int.toNat_natCast]
    simp only [IntKind.bits, hm]
    rw [UInt64.toNat_shiftRight, UInt64.toNat_ofNat', Nat.shiftRight_eq_div_pow]
    rw [Nat.mod_eq_of_lt (show s < 2 ^ 64 by omega), Nat.mod_eq_of_lt hs, Int.fdiv_eq_ediv_of_nonneg _ (by exact_mod_cast Nat.zero_le _)]
    push_cast
    rfl)

theorem yq_add_u8 {t t' : TypeId} {x y : Operand} {a b : UInt8} (h : o.op = .binOp .add t x y t') (hx : ev n ρ x = U8 a) (hy : ev n ρ y = U8 b) : Yq P n w0 E o ρ L (U8 (a + b)) :=
  yq_add_e h hx hy (by rw [wrap_u8, UInt8.toNat_add]; omega)
theorem yq_sub_u8 {t t' : TypeId} {x y : Operand} {a b : UInt8} (h : o.op = .binOp .sub t x y t') (hx : ev n ρ x = U8 a) (hy : ev n ρ y = U8 b) : Yq P n w0 E o ρ L (U8 (a - b)) :=
  yq_sub_e h hx hy (by rw [wrap_u8, UInt8.toNat_sub]; have := a.toNat_lt; have := b.toNat_lt; omega)
theorem yq_mul_u8 {t t' : TypeId} {x y : Operand} {a b : UInt8} (h : o.op = .binOp .mul t x y t') (hx : ev n ρ x = U8 a) (hy : ev n ρ y = U8 b) : Yq P n w0 E o ρ L (U8 (a * b)) :=
  yq_mul_e h hx hy (by rw [wrap_u8, UInt8.toNat_mul, Int.natCast_emod, Int.natCast_mul]; rfl)
theorem yq_quo_u8 {t t' : TypeId} {x y : Operand} {a b : UInt8} (h : o.op = .binOp .quo t x y t') (hx : ev n ρ x = U8 a) (hy : ev n ρ y = U8 b) (hb : b.toNat ≠ 0) : Yq P n w0 E o ρ L (U8 (a / b)) :=
  yq_quo_e h hx hy (by omega) (by
    rw [Int.tdiv_eq_ediv_of_nonneg (by omega), wrap_u8, UInt8.toNat_div, ← Int.natCast_ediv]
    have h1 := Nat.div_le_self a.toNat b.toNat
    have h2 := a.toNat_lt
    generalize a.toNat / b.toNat = q at *
    omega)
theorem yq_rem_u8 {t t' : TypeId} {x y : Operand} {a b : UInt8} (h : o.op = .binOp .rem t x y t') (hx : ev n ρ x = U8 a) (hy : ev n ρ y = U8 b) (hb : b.toNat ≠ 0) : Yq P n w0 E o ρ L (U8 (a % b)) :=
  yq_rem_e h hx hy (by omega) (by rw [Int.tmod_eq_emod_of_nonneg (by omega), UInt8.toNat_mod, Int.natCast_emod])
theorem bits_xor_u8 (a b : UInt8) : IntKind.u8.wrap ((BitVec.ofInt 8 (a.toNat : Int) ^^^ BitVec.ofInt 8 (b.toNat : Int)).toNat : Int) = ((a ^^^ b).toNat : Int) := by
  rw [wrap_u8, ofInt_nat, ofInt_nat, BitVec.toNat_xor, BitVec.toNat_ofNat, BitVec.toNat_ofNat, UInt8.toNat_xor, Nat.mod_eq_of_lt a.toNat_lt, Nat.mod_eq_of_lt b.toNat_lt]
  have := (a ^^^ b).toNat_lt
  rw [UInt8.toNat_xor] at this
  omega
theorem yq_xor_u8 {t t' : TypeId} {x y : Operand} {a b : UInt8} (h : o.op = .binOp .xor t x y t') (hx : ev n ρ x = U8 a) (hy : ev n ρ y = U8 b) : Yq P n w0 E o ρ L (U8 (a ^^^ b)) :=
  yq_val fun w _ => by
    simp only [execOp, h, hx, hy, Sem.run_bind, eqGuard_int]
    exact congrArg (fun z => Result.ok (Next.value (Value.int .u8 z)) w) (bits_xor_u8 a b)
theorem bits_and_u8 (a b : UInt8) : IntKind.u8.wrap ((BitVec.ofInt 8 (a.toNat : Int) &&& BitVec.ofInt 8 (b.toNat : Int)).toNat : Int) = ((a &&& b).toNat : Int) := by
  rw [wrap_u8, ofInt_nat, ofInt_nat, BitVec.toNat_and, BitVec.toNat_ofNat, BitVec.toNat_ofNat, UInt8.toNat_and, Nat.mod_eq_of_lt a.toNat_lt, Nat.mod_eq_of_lt b.toNat_lt]
  have := (a &&& b).toNat_lt
  rw [UInt8.toNat_and] at this
  omega
theorem yq_and_u8 {t t' : TypeId} {x y : Operand} {a b : UInt8} (h : o.op = .binOp .and t x y t') (hx : ev n ρ x = U8 a) (hy : ev n ρ y = U8 b) : Yq P n w0 E o ρ L (U8 (a &&& b)) :=
  yq_val fun w _ => by
    simp only [execOp, h, hx, hy, Sem.run_bind, eqGuard_int]
    exact congrArg (fun z => Result.ok (Next.value (Value.int .u8 z)) w) (bits_and_u8 a b)
theorem bits_or_u8 (a b : UInt8) : IntKind.u8.wrap ((BitVec.ofInt 8 (a.toNat : Int) ||| BitVec.ofInt 8 (b.toNat : Int)).toNat : Int) = ((a ||| b).toNat : Int) := by
  rw [wrap_u8, ofInt_nat, ofInt_nat, BitVec.toNat_or, BitVec.toNat_ofNat, BitVec.toNat_ofNat, UInt8.toNat_or, Nat.mod_eq_of_lt a.toNat_lt, Nat.mod_eq_of_lt b.toNat_lt]
  have := (a ||| b).toNat_lt
  rw [UInt8.toNat_or] at this
  omega
theorem yq_or_u8 {t t' : TypeId} {x y : Operand} {a b : UInt8} (h : o.op = .binOp .or t x y t') (hx : ev n ρ x = U8 a) (hy : ev n ρ y = U8 b) : Yq P n w0 E o ρ L (U8 (a ||| b)) :=
  yq_val fun w _ => by
    simp only [execOp, h, hx, hy, Sem.run_bind, eqGuard_int]
    exact congrArg (fun z => Result.ok (Next.value (Value.int .u8 z)) w) (bits_or_u8 a b)
theorem yq_shl_u8 {t t' : TypeId} {x y : Operand} {a : UInt8} {k : IntKind} {s : Nat} (h : o.op = .binOp .shl t x y t') (hx : ev n ρ x = U8 a) (hy : ev n ρ y = .int k (s : Int)) (hs : s < 8) : Yq P n w0 E o ρ L (U8 (a <<< UInt8.ofNat s)) :=
  yq_shl_e h hx hy (by omega) (by
    have hm : min s 8 = s := by omega
    rw [Int.toNat_natCast]
    simp only [IntKind.bits, hm]
    rw [wrap_u8, UInt8.toNat_shiftLeft, UInt8.toNat_ofNat', Nat.shiftLeft_eq]
    rw [Nat.mod_eq_of_lt (show s < 2 ^ 8 by omega), Nat.mod_eq_of_lt hs, Int.natCast_emod, Int.natCast_mul, Int.natCast_pow]
    rfl)
theorem yq_shr_u8 {t t' : TypeId} {x y : Operand} {a : UInt8} {k : IntKind} {s : Nat} (h : o.op = .binOp .shr t x y t') (hx : ev n ρ x = U8 a) (hy : ev n ρ y = .int k (s : Int)) (hs : s < 8) : Yq P n w0 E o ρ L (U8 (a >>> UInt8.ofNat s)) :=
  yq_shr_e h hx hy (by omega) (by
    have hm : min s 8 = s := by omega
    rw [Int.toNat_natCast]
    simp only [IntKind.bits, hm]
    rw [UInt8.toNat_shiftRight, UInt8.toNat_ofNat', Nat.shiftRight_eq_div_pow]
    rw [Nat.mod_eq_of_lt (show s < 2 ^ 8 by omega), Nat.mod_eq_of_lt hs, Int.fdiv_eq_ediv_of_nonneg _ (by exact_mod_cast Nat.zero_le _)]
    push_cast
    rfl)
theorem yq_conv_u8_u64 {s t : TypeId} {d : TypeDesc} {x : Operand} {a : UInt8} (h : o.op = .convert s t x) (hs : P.underlying s = some d) (ht : P.underlying t = some (.int .u64)) (hx : ev n ρ x = U8 a) : Yq P n w0 E o ρ L (U64 a.toUInt64) :=
  yq_conv_int h hs ht hx (by rw [wrap_u64, UInt8.toNat_toUInt64]; have := a.toNat_lt; omega)
theorem yq_conv_u64_u32 {s t : TypeId} {d : TypeDesc} {x : Operand} {a : UInt64} (h : o.op = .convert s t x) (hs : P.underlying s = some d) (ht : P.underlying t = some (.int .u32)) (hx : ev n ρ x = U64 a) : Yq P n w0 E o ρ L (U32 a.toUInt32) :=
  yq_conv_int h hs ht hx (by rw [wrap_u32, UInt64.toNat_toUInt32]; have := a.toNat_lt; omega)
theorem yq_conv_u32_u64 {s t : TypeId} {d : TypeDesc} {x : Operand} {a : UInt32} (h : o.op = .convert s t x) (hs : P.underlying s = some d) (ht : P.underlying t = some (.int .u64)) (hx : ev n ρ x = U32 a) : Yq P n w0 E o ρ L (U64 a.toUInt64) :=
  yq_conv_int h hs ht hx (by rw [wrap_u64, UInt32.toNat_toUInt64]; have := a.toNat_lt; omega)
theorem yq_conv_u64_u8 {s t : TypeId} {d : TypeDesc} {x : Operand} {a : UInt64} (h : o.op = .convert s t x) (hs : P.underlying s = some d) (ht : P.underlying t = some (.int .u8)) (hx : ev n ρ x = U64 a) : Yq P n w0 E o ρ L (U8 a.toUInt8) :=
  yq_conv_int h hs ht hx (by rw [wrap_u8, UInt64.toNat_toUInt8]; have := a.toNat_lt; omega)
theorem yq_conv_u8_u32 {s t : TypeId} {d : TypeDesc} {x : Operand} {a : UInt8} (h : o.op = .convert s t x) (hs : P.underlying s = some d) (ht : P.underlying t = some (.int .u32)) (hx : ev n ρ x = U8 a) : Yq P n w0 E o ρ L (U32 a.toUInt32) :=
  yq_conv_int h hs ht hx (by rw [wrap_u32, UInt8.toNat_toUInt32]; have := a.toNat_lt; omega)
/-- Of an int that is not below 0. -/
theorem yq_conv_i64_u64 {s t : TypeId} {d : TypeDesc} {x : Operand} {a : Int} (h : o.op = .convert s t x) (hs : P.underlying s = some d) (ht : P.underlying t = some (.int .u64)) (hx : ev n ρ x = .int .i64 a) (h0 : 0 ≤ a) : Yq P n w0 E o ρ L (U64 (UInt64.ofNat a.toNat)) :=
  yq_conv_int h hs ht hx (by rw [wrap_u64, UInt64.toNat_ofNat']; omega)
/-- Of an int that is not below 0. -/
theorem yq_conv_i64_u8 {s t : TypeId} {d : TypeDesc} {x : Operand} {a : Int} (h : o.op = .convert s t x) (hs : P.underlying s = some d) (ht : P.underlying t = some (.int .u8)) (hx : ev n ρ x = .int .i64 a) (h0 : 0 ≤ a) : Yq P n w0 E o ρ L (U8 (UInt8.ofNat a.toNat)) :=
  yq_conv_int h hs ht hx (by rw [wrap_u8, UInt8.toNat_ofNat']; omega)
theorem yq_conv_u8_i64 {s t : TypeId} {d : TypeDesc} {x : Operand} {a : UInt8} (h : o.op = .convert s t x) (hs : P.underlying s = some d) (ht : P.underlying t = some (.int .i64)) (hx : ev n ρ x = U8 a) : Yq P n w0 E o ρ L (.int .i64 (a.toNat : Int)) :=
  yq_conv_int h hs ht hx (by have := a.toNat_lt; exact wrap64_in ⟨by omega, by omega⟩)
theorem yq_conv_u64_i64 {s t : TypeId} {d : TypeDesc} {x : Operand} {a : UInt64} (h : o.op = .convert s t x) (hs : P.underlying s = some d) (ht : P.underlying t = some (.int .i64)) (hx : ev n ρ x = U64 a) (hr : a.toNat ≤ 9223372036854775807) : Yq P n w0 E o ρ L (.int .i64 (a.toNat : Int)) :=
  yq_conv_int h hs ht hx (by have := a.toNat_lt; exact wrap64_in ⟨by omega, by omega⟩)
theorem yq_conv_u32_i64 {s t : TypeId} {d : TypeDesc} {x : Operand} {a : UInt32} (h : o.op = .convert s t x) (hs : P.underlying s = some d) (ht : P.underlying t = some (.int .i64)) (hx : ev n ρ x = U32 a) : Yq P n w0 E o ρ L (.int .i64 (a.toNat : Int)) :=
  yq_conv_int h hs ht hx (by have := a.toNat_lt; exact wrap64_in ⟨by omega, by omega⟩)
end
end Go.WL
