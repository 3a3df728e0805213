/- What the program's functions tell, as plain Lean functions: bits, SHA-256; no statement of the seat is proved here. -/
namespace Go.Spec

abbrev Bytes := List UInt8
abbrev Hash := Vector UInt8 32
def zeroHash : Hash := Vector.replicate 32 0

/-! ### bits -/
/-- The lowest bytes of a number, the highest first. -/
def putB (n : UInt64) : Nat → Bytes
  | 0 => []
  | k + 1 => putB (n >>> 8) k ++ [n.toUInt8]
/-- The number of bytes. -/
def getB (l : Bytes) : UInt64 := l.foldl (fun n b => (n <<< 8) + b.toUInt64) 0
def rot (x : UInt32) (k : Nat) : UInt32 := x >>> UInt32.ofNat k ||| x <<< UInt32.ofNat (32 - k)

/-! ### SHA-256 -/
def roundKs : List UInt32 := [
  0x428a2f98, 0x71374491, 0xb5c0fbcf, 0xe9b5dba5, 0x3956c25b, 0x59f111f1, 0x923f82a4, 0xab1c5ed5,
  0xd807aa98, 0x12835b01, 0x243185be, 0x550c7dc3, 0x72be5d74, 0x80deb1fe, 0x9bdc06a7, 0xc19bf174,
  0xe49b69c1, 0xefbe4786, 0x0fc19dc6, 0x240ca1cc, 0x2de92c6f, 0x4a7484aa, 0x5cb0a9dc, 0x76f988da,
  0x983e5152, 0xa831c66d, 0xb00327c8, 0xbf597fc7, 0xc6e00bf3, 0xd5a79147, 0x06ca6351, 0x14292967,
  0x27b70a85, 0x2e1b2138, 0x4d2c6dfc, 0x53380d13, 0x650a7354, 0x766a0abb, 0x81c2c92e, 0x92722c85,
  0xa2bfe8a1, 0xa81a664b, 0xc24b8b70, 0xc76c51a3, 0xd192e819, 0xd6990624, 0xf40e3585, 0x106aa070,
  0x19a4c116, 0x1e376c08, 0x2748774c, 0x34b0bcb5, 0x391c0cb3, 0x4ed8aa4a, 0x5b9cca4f, 0x682e6ff3,
  0x748f82ee, 0x78a5636f, 0x84c87814, 0x8cc70208, 0x90befffa, 0xa4506ceb, 0xbef9a3f7, 0xc67178f2]
structure S8 where
  (a b c d e f g h : UInt32)
def S8.l (v : S8) : List UInt32 := [v.a, v.b, v.c, v.d, v.e, v.f, v.g, v.h]
def firstS : S8 := ⟨0x6a09e667, 0xbb67ae85, 0x3c6ef372, 0xa54ff53a, 0x510e527f, 0x9b05688c, 0x1f83d9ab, 0x5be0cd19⟩

def sg0 (x : UInt32) : UInt32 := rot x 7 ^^^ rot x 18 ^^^ x >>> 3
def sg1 (x : UInt32) : UInt32 := rot x 17 ^^^ rot x 19 ^^^ x >>> 10
/-- The word of a block's schedule of which the ones before it are w. -/
def nextW (blk : Bytes) (w : List UInt32) : UInt32 :=
  if w.length < 16 then (getB ((blk.drop (4 * w.length)).take 4)).toUInt32
  else w.getD (w.length - 16) 0 + w.getD (w.length - 7) 0 + sg0 (w.getD (w.length - 15) 0) + sg1 (w.getD (w.length - 2) 0)
def sched (blk : Bytes) : Nat → List UInt32
  | 0 => []
  | k + 1 => sched blk k ++ [nextW blk (sched blk k)]
theorem sched_length (blk : Bytes) (k : Nat) : (sched blk k).length = k := by induction k <;> simp_all [sched]

def tOf (v : S8) (k n : UInt32) : UInt32 := v.h + (rot v.e 6 ^^^ rot v.e 11 ^^^ rot v.e 25) + (v.e &&& v.f ^^^ (v.e ^^^ 4294967295) &&& v.g) + k + n
def uOf (v : S8) : UInt32 := (rot v.a 2 ^^^ rot v.a 13 ^^^ rot v.a 22) + (v.a &&& v.b ^^^ v.a &&& v.c ^^^ v.b &&& v.c)
def step8 (v : S8) (k n : UInt32) : S8 := ⟨tOf v k n + uOf v, v.a, v.b, v.c, v.d + tOf v k n, v.e, v.f, v.g⟩
/-- So many rounds. -/
def rounds8 (w : List UInt32) (v : S8) : Nat → S8
  | 0 => v
  | i + 1 => step8 (rounds8 w v i) (roundKs.getD i 0) (w.getD i 0)
def add8 (v u : S8) : S8 := ⟨v.a + u.a, v.b + u.b, v.c + u.c, v.d + u.d, v.e + u.e, v.f + u.f, v.g + u.g, v.h + u.h⟩
def mix8 (was : S8) (blk : Bytes) : S8 := add8 (rounds8 (sched blk 64) was 64) was

def filledB (s : Bytes) : Bytes := s ++ [128] ++ List.replicate ((64 + 55 - s.length % 64) % 64) 0 ++ putB (UInt64.ofNat s.length * 8) 8
/-- The numbers behind so many blocks. -/
def blocks8 (v : S8) : Nat → Bytes → S8
  | 0, _ => v
  | k + 1, t => blocks8 (mix8 v (t.take 64)) k (t.drop 64)
def outB (v : S8) : Bytes := v.l.flatMap fun n => putB n.toUInt64 4
theorem putB_length (n : UInt64) (k : Nat) : (putB n k).length = k := by induction k generalizing n <;> simp_all [putB]
theorem outB_length (v : S8) : (outB v).length = 32 := by simp [outB, S8.l, putB_length]
def hashOf (l : Bytes) (h : l.length = 32) : Hash := ⟨l.toArray, by simpa using h⟩
def sha (s : Bytes) : Hash := hashOf (outB (blocks8 firstS ((filledB s).length / 64) (filledB s))) (outB_length _)

theorem rounds8_zero (w : List UInt32) (v : S8) : rounds8 w v 0 = v := rfl
theorem rounds8_succ (w : List UInt32) (v : S8) (i : Nat) : rounds8 w v (i + 1) = step8 (rounds8 w v i) (roundKs.getD i 0) (w.getD i 0) := rfl
theorem sched_zero (blk : Bytes) : sched blk 0 = [] := rfl
theorem sched_succ (blk : Bytes) (k : Nat) : sched blk (k + 1) = sched blk k ++ [nextW blk (sched blk k)] := rfl
theorem blocks8_zero (v : S8) (t : Bytes) : blocks8 v 0 t = v := rfl
theorem blocks8_succ (v : S8) (k : Nat) (t : Bytes) : blocks8 v (k + 1) t = blocks8 (mix8 v (t.take 64)) k (t.drop 64) := rfl
attribute [irreducible] rounds8 sched blocks8 sha

end Go.Spec
