/- The layer over the walk, whole: what stood in S0 and L0 to L16; no statement of the seat is proved here. -/
import Derived.Calls
import Derived.Tactics
import Derived.LoopN
import Derived.Scope
import Derived.ScopeJumps
import Derived.Deep.Quiet
import Derived.Laws.AppendOwn
import Derived.Laws.OwnMore
import Derived.Laws.Rows
import Derived.Laws.Cells
import Derived.Below
import Derived.StillTail
import Derived.WalkKit
import Derived.KernelRfl
import Derived.Laws.Tables
import Derived.Laws.MakeOwn
import Derived.Laws.CopyRow
import Derived.Laws.Strings
import Derived.Laws.BytesArg
import Derived.Laws.BytesString
import Derived.Laws.IdiomStrings
import Derived.ArgAppend
import Derived.Great.FillDense
import Derived.Laws.StructEq
import Derived.Laws.IdiomCopy
import Derived.OrdersHeld
import Derived.Lib.AppendStr
import Derived.Laws.Append
import Derived.Lib.UnsafeStr
import Derived.Lib.LazyBuf
import Derived.Laws.Pointers
import Derived.Laws.Cover3
set_option linter.unusedVariables false
set_option linter.unusedSimpArgs false
namespace Go.Spec

abbrev Bytes := List UInt8
abbrev Hash := Vector UInt8 32
def zeroHash : Hash := Vector.replicate 32 0

/-! ### bits -/
/-- The lowest bytes of a number, the highest first. -/
def putB (n : UInt64) : Nat → Bytes
  | 0 => []
  | k + 1 => putB (n >>> 8) k ++ [n.toUInt8]
/-- The number of bytes. -/
def getB (l : Bytes) : UInt64 := l.foldl (fun n b => (n <<< 8) + b.toUInt64) 0
def rot (x : UInt32) (k : Nat) : UInt32 := x >>> UInt32.ofNat k ||| x <<< UInt32.ofNat (32 - k)

/-! ### SHA-256 -/
def roundKs : List UInt32 := [
  0x428a2f98, 0x71374491, 0xb5c0fbcf, 0xe9b5dba5, 0x3956c25b, 0x59f111f1, 0x923f82a4, 0xab1c5ed5,
  0xd807aa98, 0x12835b01, 0x243185be, 0x550c7dc3, 0x72be5d74, 0x80deb1fe, 0x9bdc06a7, 0xc19bf174,
  0xe49b69c1, 0xefbe4786, 0x0fc19dc6, 0x240ca1cc, 0x2de92c6f, 0x4a7484aa, 0x5cb0a9dc, 0x76f988da,
  0x983e5152, 0xa831c66d, 0xb00327c8, 0xbf597fc7, 0xc6e00bf3, 0xd5a79147, 0x06ca6351, 0x14292967,
  0x27b70a85, 0x2e1b2138, 0x4d2c6dfc, 0x53380d13, 0x650a7354, 0x766a0abb, 0x81c2c92e, 0x92722c85,
  0xa2bfe8a1, 0xa81a664b, 0xc24b8b70, 0xc76c51a3, 0xd192e819, 0xd6990624, 0xf40e3585, 0x106aa070,
  0x19a4c116, 0x1e376c08, 0x2748774c, 0x34b0bcb5, 0x391c0cb3, 0x4ed8aa4a, 0x5b9cca4f, 0x682e6ff3,
  0x748f82ee, 0x78a5636f, 0x84c87814, 0x8cc70208, 0x90befffa, 0xa4506ceb, 0xbef9a3f7, 0xc67178f2]
structure S8 where
  (a b c d e f g h : UInt32)
def S8.l (v : S8) : List UInt32 := [v.a, v.b, v.c, v.d, v.e, v.f, v.g, v.h]
def firstS : S8 := ⟨0x6a09e667, 0xbb67ae85, 0x3c6ef372, 0xa54ff53a, 0x510e527f, 0x9b05688c, 0x1f83d9ab, 0x5be0cd19⟩

def sg0 (x : UInt32) : UInt32 := rot x 7 ^^^ rot x 18 ^^^ x >>> 3
def sg1 (x : UInt32) : UInt32 := rot x 17 ^^^ rot x 19 ^^^ x >>> 10
/-- The word of a block's schedule of which the ones before it are w. -/
def nextW (blk : Bytes) (w : List UInt32) : UInt32 :=
  if w.length < 16 then (getB ((blk.drop (4 * w.length)).take 4)).toUInt32
  else w.getD (w.length - 16) 0 + w.getD (w.length - 7) 0 + sg0 (w.getD (w.length - 15) 0) + sg1 (w.getD (w.length - 2) 0)
def sched (blk : Bytes) : Nat → List UInt32
  | 0 => []
  | k + 1 => sched blk k ++ [nextW blk (sched blk k)]
theorem sched_length (blk : Bytes) (k : Nat) : (sched blk k).length = k := by induction k <;> simp_all [sched]

def tOf (v : S8) (k n : UInt32) : UInt32 := v.h + (rot v.e 6 ^^^ rot v.e 11 ^^^ rot v.e 25) + (v.e &&& v.f ^^^ (v.e ^^^ 4294967295) &&& v.g) + k + n
def uOf (v : S8) : UInt32 := (rot v.a 2 ^^^ rot v.a 13 ^^^ rot v.a 22) + (v.a &&& v.b ^^^ v.a &&& v.c ^^^ v.b &&& v.c)
def step8 (v : S8) (k n : UInt32) : S8 := ⟨tOf v k n + uOf v, v.a, v.b, v.c, v.d + tOf v k n, v.e, v.f, v.g⟩
/-- So many rounds. -/
def rounds8 (w : List UInt32) (v : S8) : Nat → S8
  | 0 => v
  | i + 1 => step8 (rounds8 w v i) (roundKs.getD i 0) (w.getD i 0)
def add8 (v u : S8) : S8 := ⟨v.a + u.a, v.b + u.b, v.c + u.c, v.d + u.d, v.e + u.e, v.f + u.f, v.g + u.g, v.h + u.h⟩
def mix8 (was : S8) (blk : Bytes) : S8 := add8 (rounds8 (sched blk 64) was 64) was

def filledB (s : Bytes) : Bytes := s ++ [128] ++ List.replicate ((64 + 55 - s.length % 64) % 64) 0 ++ putB (UInt64.ofNat s.length * 8) 8
/-- The numbers behind so many blocks. -/
def blocks8 (v : S8) : Nat → Bytes → S8
  | 0, _ => v
  | k + 1, t => blocks8 (mix8 v (t.take 64)) k (t.drop 64)
def outB (v : S8) : Bytes := v.l.flatMap fun n => putB n.toUInt64 4
theorem putB_length (n : UInt64) (k : Nat) : (putB n k).length = k := by induction k generalizing n <;> simp_all [putB]
theorem outB_length (v : S8) : (outB v).length = 32 := by simp [outB, S8.l, putB_length]
def hashOf (l : Bytes) (h : l.length = 32) : Hash := ⟨l.toArray, by simpa using h⟩
def sha (s : Bytes) : Hash := hashOf (outB (blocks8 firstS ((filledB s).length / 64) (filledB s))) (outB_length _)

theorem rounds8_zero (w : List UInt32) (v : S8) : rounds8 w v 0 = v := rfl
theorem rounds8_succ (w : List UInt32) (v : S8) (i : Nat) : rounds8 w v (i + 1) = step8 (rounds8 w v i) (roundKs.getD i 0) (w.getD i 0) := rfl
theorem sched_zero (blk : Bytes) : sched blk 0 = [] := rfl
theorem sched_succ (blk : Bytes) (k : Nat) : sched blk (k + 1) = sched blk k ++ [nextW blk (sched blk k)] := rfl
theorem blocks8_zero (v : S8) (t : Bytes) : blocks8 v 0 t = v := rfl
theorem blocks8_succ (v : S8) (k : Nat) (t : Bytes) : blocks8 v (k + 1) t = blocks8 (mix8 v (t.take 64)) k (t.drop 64) := rfl
attribute [irreducible] rounds8 sched blocks8 sha

end Go.Spec

namespace Go.WL

/-! ### Frames -/
def upd (ρ : Nat → Value) (d : Nat) (v : Value) : Nat → Value := fun t => bif Nat.beq t d then v else ρ t
theorem upd_same (ρ : Nat → Value) (d : Nat) (v : Value) : upd ρ d v d = v := by simp [upd]
theorem upd_ne (ρ : Nat → Value) {d t : Nat} (v : Value) (h : t ≠ d) : upd ρ d v t = ρ t := by
  have : Nat.beq t d = false := by
    cases hq : Nat.beq t d with
    | false => rfl
    | true => exact absurd (Nat.eq_of_beq_eq_true hq) h
  simp [upd, this]
theorem upd_self {ρ : Nat → Value} {d : Nat} {v : Value} (h : ρ d = v) : upd ρ d v = ρ := by
  funext t
  by_cases e : t = d
  · subst e; rw [upd_same, h]
  · rw [upd_ne _ _ e]
def updO (ρ : Nat → Value) : Option Tmp → Value → (Nat → Value)
  | some d, v => upd ρ d v
  | none, _ => ρ

def ev (n : Nat) (ρ : Nat → Value) : Operand → Value
  | .tmp t => bif Nat.blt t n then ρ t else undef
  | .const v => v
  | .global g => .pointer (some ⟨g, 0, none⟩)
  | .func f => .func (.func f) #[] #[]

structure FR (n : Nat) (ρ : Nat → Value) (a : Act) : Prop where
  defers : a.defers = []
  size : a.tmps.size = n
  at_ : ∀ t, t < n → a.tmps[t]? = some (ρ t)

theorem FR.eval {n : Nat} {ρ : Nat → Value} {a : Act} (h : FR n ρ a) : a.eval = ev n ρ := by
  funext x
  cases x with
  | tmp t =>
    by_cases ht : t < n
    · have hb : Nat.blt t n = true := by simpa [Nat.blt_eq] using ht
      have := h.at_ t ht
      simp only [Act.eval, ev, hb, cond_true]
      rw [Array.getD_eq_getD_getElem?, this]; rfl
    · have hb : Nat.blt t n = false := by
        cases hq : Nat.blt t n with
        | false => rfl
        | true => exact absurd (by simpa [Nat.blt_eq] using hq) ht
      simp only [Act.eval, ev, hb, cond_false]
      rw [Array.getD_eq_getD_getElem?, Array.getElem?_eq_none (Nat.le_trans (Nat.le_of_eq h.size) (Nat.le_of_not_lt ht))]; rfl
  | const v => rfl
  | global g => rfl
  | func f => rfl

theorem FR.put {n : Nat} {ρ : Nat → Value} {a : Act} (h : FR n ρ a) (dst : Option Tmp) (v : Value) : FR n (updO ρ dst v) (a.put dst v) := by
  cases dst with
  | none => exact h
  | some d =>
    refine ⟨h.defers, by simpa [Act.put] using h.size, fun t ht => ?_⟩
    simp only [Act.put, updO, Array.getElem?_setIfInBounds]
    by_cases e : d = t
    · subst e
      rw [if_pos rfl, if_pos (by rw [h.size]; exact ht), upd_same]
    · rw [if_neg e, upd_ne _ _ (fun x => e x.symm)]
      exact h.at_ t ht

/-- What an operation that went before has yielded, for a guard. -/
def yl (n : Nat) (ops : Array Oper) (ρ : Nat → Value) (j : Nat) : Option Bool :=
  match ((ops[j]?).bind (·.dst)) with
  | some t => bif Nat.blt t n then (match ρ t with | .bool b => some b | _ => none) else none
  | none => none

theorem FR.yielded {n : Nat} {ρ : Nat → Value} {a : Act} (h : FR n ρ a) (ops : Array Oper) : yielded ops a.tmps = yl n ops ρ := by
  funext j
  unfold Go.yielded yl
  cases hd : (ops[j]?).bind (·.dst) with
  | none => simp
  | some t =>
    simp only [Option.bind_some]
    by_cases ht : t < n
    · have hb : Nat.blt t n = true := by simpa [Nat.blt_eq] using ht
      rw [h.at_ t ht, hb]
      cases ρ t <;> rfl
    · have hb : Nat.blt t n = false := by
        cases hq : Nat.blt t n with
        | false => rfl
        | true => exact absurd (by simpa [Nat.blt_eq] using hq) ht
      rw [hb, Array.getElem?_eq_none (Nat.le_trans (Nat.le_of_eq h.size) (Nat.le_of_not_lt ht))]
      rfl

/-! ### Memory -/
inductive Ent where
  | blk (b : Nat) (cs : List Value) (T : TypeId) (fz : Nat × Nat)
  | row (a : Option Nat) (cap n : Nat) (T : TypeId) (size : Nat) (xs : List Value)

/-- A slice that is nil or begins at the head of a block. -/
def rowV (a : Option Nat) (n cap : Nat) : Value := .slice (a.map fun g => ⟨g, 0, none⟩) n cap

def Ent.fp : Ent → Option Nat
  | .blk b _ _ _ => some b
  | .row a _ _ _ _ _ => a

def Ent.ok (w : World) : Ent → Prop
  | .blk b cs T fz => w.heap[b]? = some (.cells cs.toArray T fz)
  | .row a cap n T size xs => w.ownsRow 0 T size (rowV a n cap) n xs

theorem rowV_own (a : Option Nat) (n cap : Nat) : (rowV a n cap).ownBlock = a := by cases a <;> rfl

theorem Ent.ok_lt {w : World} {x : Ent} (h : x.ok w) {b : Nat} (hb : x.fp = some b) : b < w.heap.size := by
  cases x with
  | blk b' cs T fz =>
    simp only [Ent.fp, Option.some.injEq] at hb
    subst hb
    exact (Array.getElem?_eq_some_iff.1 h).1
  | row a cap n T size xs => exact (World.ownsRow.lt h b (by rw [rowV_own]; exact hb)).2

/-- An entry looks at its own block alone. -/
theorem Ent.ok_of_same {w w' : World} {x : Ent} (h : x.ok w) (hs : ∀ b, x.fp = some b → w'.heap[b]? = w.heap[b]?) : x.ok w' := by
  cases x with
  | blk b cs T fz => exact (hs b rfl).trans h
  | row a cap n T size xs =>
    refine ⟨h.1, ?_⟩
    rcases h.2 with hn | ⟨g, cap', cur, hv, hb, hgg, rest⟩
    · exact .inl hn
    · have ha : a = some g := by
        have := congrArg Value.ownBlock hv
        rw [rowV_own] at this
        exact this
      exact .inr ⟨g, cap', cur, hv, hb, (hs g ha).trans hgg, rest⟩

/-- The worlds of a call that began in w0, may turn the blocks E, and owns L. -/
structure Cl (w0 : World) (E : List Nat) (L : List Ent) (w : World) : Prop where
  os : w.os = w0.os
  tape : w.tape = w0.tape
  output : w.output = w0.output
  size : w0.heap.size ≤ w.heap.size
  old : ∀ k, k < w0.heap.size → k ∉ E → w.heap[k]? = w0.heap[k]?
  own : ∀ x ∈ L, x.ok w
  new : ∀ x ∈ L, ∀ b, x.fp = some b → w0.heap.size ≤ b ∨ b ∈ E
  nodup : (L.filterMap Ent.fp).Nodup

theorem Cl.refl (w : World) : Cl w [] [] w :=
  ⟨rfl, rfl, rfl, Nat.le_refl _, fun _ _ _ => rfl, fun _ h => (by cases h), fun _ h => (by cases h), (by simp)⟩

theorem Cl.drew {w0 : World} {E : List Nat} {L : List Ent} {w : World} (h : Cl w0 E L w) (d : Nat) : Cl w0 E L { w with drawn := d } :=
  ⟨h.os, h.tape, h.output, h.size, h.old, fun x hx => Ent.ok_of_same (h.own x hx) (fun _ _ => rfl), h.new, h.nodup⟩

theorem Cl.below {w0 : World} {L : List Ent} {w : World} (h : Cl w0 [] L w) : RowKit.Below w0.heap.size w0 w :=
  ⟨h.os, h.tape, h.output, h.size, fun k hk => h.old k hk (by simp)⟩

theorem Cl.of_below {w0 w : World} (h : RowKit.Below w0.heap.size w0 w) : Cl w0 [] [] w :=
  ⟨h.os, h.tape, h.output, h.size, fun k hk _ => h.block k hk, fun _ h => (by cases h), fun _ h => (by cases h), (by simp)⟩

/-- Fewer things known. -/
theorem Cl.sub {w0 : World} {E : List Nat} {L L' : List Ent} {w : World} (h : Cl w0 E L w) (hs : L'.Sublist L) : Cl w0 E L' w :=
  ⟨h.os, h.tape, h.output, h.size, h.old, fun x hx => h.own x (hs.subset hx), fun x hx => h.new x (hs.subset hx), h.nodup.sublist (hs.filterMap _)⟩

/-- An old block that is not lent is as it was. -/
theorem Cl.cell {w0 : World} {E : List Nat} {L : List Ent} {w : World} (h : Cl w0 E L w) {p : Addr} (hp : p.block < w0.heap.size) (hE : p.block ∉ E) : w.cell? p = w0.cell? p :=
  World.cell?_of_block (h.old _ hp hE)

theorem Cl.heap {w0 : World} {E : List Nat} {L : List Ent} {w : World} (h : Cl w0 E L w) {b : Nat} {cs : List Value} {T : TypeId} {fz : Nat × Nat} (hb : Ent.blk b cs T fz ∈ L) :
    w.heap[b]? = some (.cells cs.toArray T fz) := h.own _ hb

/-! ### What a call leaves: an inner class within an outer one -/
/-- Behind a call that turned nothing of ours, and left new things L1. -/
theorem Cl.call {w0 : World} {E : List Nat} {L L1 : List Ent} {w w' : World} (h : Cl w0 E L w) (h1 : Cl w [] L1 w') : Cl w0 E (L1 ++ L) w' := by
  have hb := h1.below
  have hsame : ∀ x ∈ L, ∀ b, x.fp = some b → w'.heap[b]? = w.heap[b]? := fun x hx b hxb => h1.old b (Ent.ok_lt (h.own x hx) hxb) (by simp)
  refine ⟨h1.os.trans h.os, h1.tape.trans h.tape, h1.output.trans h.output, Nat.le_trans h.size h1.size, fun k hk hE => (h1.old k (Nat.lt_of_lt_of_le hk h.size) (by simp)).trans (h.old k hk hE), ?_, ?_, ?_⟩
  · intro x hx
    rcases List.mem_append.1 hx with hx | hx
    · exact h1.own x hx
    · exact Ent.ok_of_same (h.own x hx) (hsame x hx)
  · intro x hx b hxb
    rcases List.mem_append.1 hx with hx | hx
    · rcases h1.new x hx b hxb with hn | hn
      · exact .inl (Nat.le_trans h.size hn)
      · simp at hn
    · exact h.new x hx b hxb
  · rw [List.filterMap_append, List.nodup_append]
    refine ⟨h1.nodup, h.nodup, ?_⟩
    intro b hb1 c hc hbc
    subst hbc
    obtain ⟨x, hx, hxb⟩ := List.mem_filterMap.1 hb1
    obtain ⟨y, hy, hyb⟩ := List.mem_filterMap.1 hc
    rcases h1.new x hx b hxb with hn | hn
    · have := Ent.ok_lt (h.own y hy) hyb
      omega
    · simp at hn

/-- One block among ours has another content. -/
inductive Put (x y : Ent) : List Ent → List Ent → Prop where
  | head {L : List Ent} : Put x y (x :: L) (y :: L)
  | tail {z : Ent} {L L' : List Ent} : Put x y L L' → Put x y (z :: L) (z :: L')

theorem Put.mem {x y : Ent} {L L' : List Ent} (h : Put x y L L') : x ∈ L := by
  induction h with
  | head => simp
  | tail _ ih => exact List.mem_cons_of_mem _ ih

theorem Put.sub {x y : Ent} {L L' : List Ent} (h : Put x y L L') : ∀ z ∈ L', z = y ∨ z ∈ L := by
  induction h with
  | head => intro z hz; rcases List.mem_cons.1 hz with rfl | hz; exact .inl rfl; exact .inr (List.mem_cons_of_mem _ hz)
  | tail _ ih =>
    intro z hz
    rcases List.mem_cons.1 hz with rfl | hz
    · exact .inr (by simp)
    · rcases ih z hz with h | h
      · exact .inl h
      · exact .inr (List.mem_cons_of_mem _ h)

theorem Put.fps {x y : Ent} {L L' : List Ent} (h : Put x y L L') (hf : y.fp = x.fp) : L'.filterMap Ent.fp = L.filterMap Ent.fp := by
  induction h with
  | head => simp only [List.filterMap_cons, hf]
  | tail _ ih => simp only [List.filterMap_cons, ih]

/-- What stands beside the entry that is turned has another block. -/
theorem Put.apart {x y : Ent} {L L' : List Ent} (h : Put x y L L') (hn : (L.filterMap Ent.fp).Nodup) {b : Nat} (hb : x.fp = some b) : ∀ z ∈ L', z = y ∨ (z ∈ L ∧ z.fp ≠ some b) := by
  induction h with
  | @head L =>
    intro z hz
    rcases List.mem_cons.1 hz with rfl | hz
    · exact .inl rfl
    · refine .inr ⟨List.mem_cons_of_mem _ hz, fun hzb => ?_⟩
      simp only [List.filterMap_cons, hb, List.nodup_cons] at hn
      exact hn.1 (List.mem_filterMap.2 ⟨z, hz, hzb⟩)
  | @tail u L L' h' ih =>
    intro z hz
    have hn' : (L.filterMap Ent.fp).Nodup := by
      simp only [List.filterMap_cons] at hn
      cases hu : u.fp with
      | none => simpa [hu] using hn
      | some c => rw [hu] at hn; exact (List.nodup_cons.1 hn).2
    rcases List.mem_cons.1 hz with rfl | hz
    · refine .inr ⟨by simp, fun hzb => ?_⟩
      simp only [List.filterMap_cons, hzb, List.nodup_cons] at hn
      exact hn.1 (List.mem_filterMap.2 ⟨x, h'.mem, hb⟩)
    · rcases ih hn' z hz with h | h
      · exact .inl h
      · exact .inr ⟨List.mem_cons_of_mem _ h.1, h.2⟩

theorem Cl.put {w0 : World} {E : List Nat} {L L' : List Ent} {w w' : World} {x y : Ent} {b : Nat} (h : Cl w0 E L w) (hp : Put x y L L') (hb : x.fp = some b) (hf : y.fp = x.fp)
    (hos : w'.os = w.os) (ht : w'.tape = w.tape) (ho : w'.output = w.output) (hs : w'.heap.size = w.heap.size) (hk : ∀ k, k ≠ b → w'.heap[k]? = w.heap[k]?) (hy : y.ok w') : Cl w0 E L' w' := by
  have hnew := h.new x hp.mem b hb
  refine ⟨hos.trans h.os, ht.trans h.tape, ho.trans h.output, by rw [hs]; exact h.size, fun k hk0 hkE => ?_, ?_, ?_, ?_⟩
  · have hne : k ≠ b := fun e => by
      subst e
      rcases hnew with h1 | h1
      · omega
      · exact hkE h1
    exact (hk k hne).trans (h.old k hk0 hkE)
  · intro z hz
    rcases hp.apart h.nodup hb z hz with rfl | ⟨hz, hzb⟩
    · exact hy
    · exact Ent.ok_of_same (h.own z hz) (fun c hc => hk c (fun e => hzb (e ▸ hc)))
  · intro z hz c hc
    rcases hp.sub z hz with rfl | hz
    · rw [hf, hb] at hc
      cases hc
      exact hnew
    · exact h.new z hz c hc
  · rw [hp.fps hf]; exact h.nodup

theorem Cl.alloc {w0 : World} {E : List Nat} {L : List Ent} {w : World} (h : Cl w0 E L w) (cs : Array Value) (T : TypeId) :
    Cl w0 E (.blk w.heap.size cs.toList T (0, 0) :: L) { w with heap := w.heap.push (.cells cs T) } := by
  have hsame : ∀ k, k < w.heap.size → (w.heap.push (.cells cs T))[k]? = w.heap[k]? := fun k hk => by rw [Array.getElem?_push, if_neg (by omega)]
  refine ⟨h.os, h.tape, h.output, by simp; have := h.size; omega, fun k hk hE => (hsame k (Nat.lt_of_lt_of_le hk h.size)).trans (h.old k hk hE), ?_, ?_, ?_⟩
  · intro x hx
    rcases List.mem_cons.1 hx with rfl | hx
    · simp [Ent.ok]
    · exact Ent.ok_of_same (h.own x hx) (fun b hb => hsame b (Ent.ok_lt (h.own x hx) hb))
  · intro x hx b hb
    rcases List.mem_cons.1 hx with rfl | hx
    · simp only [Ent.fp, Option.some.injEq] at hb
      subst hb
      exact .inl h.size
    · exact h.new x hx b hb
  · simp only [List.filterMap_cons, Ent.fp, List.nodup_cons]
    refine ⟨fun hm => ?_, h.nodup⟩
    obtain ⟨y, hy, hyb⟩ := List.mem_filterMap.1 hm
    have := Ent.ok_lt (h.own y hy) hyb
    omega

end Go.WL

namespace Go.WL

abbrev Post := Exit → (Nat → Value) → List Ent → Prop

section
variable {P : Program} {n : Nat} {w0 : World} {E : List Nat}

def up (n : Nat) (w0 : World) (E : List Nat) (Q : Post) : Exit → Act → World → Prop := fun e a w => ∃ ρ L, FR n ρ a ∧ Cl w0 E L w ∧ Q e ρ L

def CW (P : Program) (n : Nat) (w0 : World) (E : List Nat) (c : Code) (Q : Post) (ρ : Nat → Value) (L : List Ent) : Prop :=
  ∀ a w, FR n ρ a → Cl w0 E L w → c.wp P (up n w0 E Q) a w

def thenQ (N : (Nat → Value) → List Ent → Prop) (Q : Post) : Post
  | .normal, ρ, L => N ρ L
  | e, ρ, L => Q e ρ L

def blockQ (id : Nat) (Q : Post) : Post
  | .exit id', ρ, L => if id' = id then Q .normal ρ L else Q (.exit id') ρ L
  | e, ρ, L => Q e ρ L

theorem up_then {N : (Nat → Value) → List Ent → Prop} {Q : Post} {M : Act → World → Prop} (h : ∀ ρ L a w, FR n ρ a → Cl w0 E L w → N ρ L → M a w) (e : Exit) (a : Act) (w : World)
    (hu : up n w0 E (thenQ N Q) e a w) : Exit.then M (up n w0 E Q) e a w := by
  obtain ⟨ρ, L, hf, hc, hq⟩ := hu
  cases e with
  | normal => exact h ρ L a w hf hc hq
  | _ => exact ⟨ρ, L, hf, hc, hq⟩

theorem CW.mono {c : Code} {Q Q' : Post} {ρ : Nat → Value} {L : List Ent} (hq : ∀ e ρ L, Q e ρ L → Q' e ρ L) (h : CW P n w0 E c Q ρ L) : CW P n w0 E c Q' ρ L :=
  fun a w hf hc => Code.wp_mono (fun e a w ⟨ρ, L, h1, h2, h3⟩ => ⟨ρ, L, h1, h2, hq e ρ L h3⟩) (h a w hf hc)

theorem CW.seq {x y : Code} {Q : Post} {ρ : Nat → Value} {L : List Ent} (h : CW P n w0 E x (thenQ (fun ρ L => CW P n w0 E y Q ρ L) Q) ρ L) : CW P n w0 E (.seq x y) Q ρ L :=
  fun a w hf hc => wp_seq (Code.wp_mono (up_then fun ρ L a w hf hc hn => hn a w hf hc) (h a w hf hc))

/-- What follows behind a variable. -/
theorem CW.seq_k {x y : Code} {Q : Post} {ρ : Nat → Value} {L : List Ent}
    (h : ∀ K : (Nat → Value) → List Ent → Prop, (∀ ρ L, CW P n w0 E y Q ρ L → K ρ L) → CW P n w0 E x (thenQ K Q) ρ L) : CW P n w0 E (.seq x y) Q ρ L :=
  CW.seq (h _ fun _ _ h => h)

/-- A piece of code of which one fact is enough for what follows. -/
theorem CW.cut {x y : Code} {Q : Post} {ρ : Nat → Value} {L : List Ent} (M : (Nat → Value) → List Ent → Prop) (h : CW P n w0 E x (thenQ M Q) ρ L)
    (h2 : ∀ ρ L, M ρ L → CW P n w0 E y Q ρ L) : CW P n w0 E (.seq x y) Q ρ L :=
  CW.seq (h.mono fun e ρ L hq => by cases e <;> first | exact h2 _ _ hq | exact hq)

theorem CW.skip {Q : Post} {ρ : Nat → Value} {L : List Ent} (h : Q .normal ρ L) : CW P n w0 E .skip Q ρ L :=
  fun a w hf hc => wp_skip ⟨ρ, L, hf, hc, h⟩
theorem CW.label {l : Nat} {Q : Post} {ρ : Nat → Value} {L : List Ent} (h : Q .normal ρ L) : CW P n w0 E (.label l) Q ρ L :=
  fun a w hf hc => wp_label ⟨ρ, L, hf, hc, h⟩
theorem CW.ret {Q : Post} {ρ : Nat → Value} {L : List Ent} (h : Q .ret ρ L) : CW P n w0 E .ret Q ρ L :=
  fun a w hf hc => wp_ret ⟨ρ, L, hf, hc, h⟩
theorem CW.exit {id : Nat} {Q : Post} {ρ : Nat → Value} {L : List Ent} (h : Q (.exit id) ρ L) : CW P n w0 E (.exit id) Q ρ L :=
  fun a w hf hc => wp_exit ⟨ρ, L, hf, hc, h⟩

theorem CW.block {id : Nat} {c : Code} {Q : Post} {ρ : Nat → Value} {L : List Ent} (h : CW P n w0 E c (blockQ id Q) ρ L) : CW P n w0 E (.block id c) Q ρ L :=
  fun a w hf hc => wp_block (Code.wp_mono (fun e a w ⟨ρ, L, h1, h2, h3⟩ => by
    cases e with
    | exit id' =>
      by_cases hid : id' = id
      · simp only [blockQ, hid, if_true] at h3
        simp only [Exit.inBlock, hid, if_true]
        exact ⟨ρ, L, h1, h2, h3⟩
      · simp only [blockQ, hid, if_false] at h3
        simp only [Exit.inBlock, hid, if_false]
        exact ⟨ρ, L, h1, h2, h3⟩
    | _ => exact ⟨ρ, L, h1, h2, h3⟩) (h a w hf hc))

theorem CW.cond {c : Operand} {x y : Code} {t : Bool} {Q : Post} {ρ : Nat → Value} {L : List Ent} (hc : ev n ρ c = .bool t) (ht : t = true → CW P n w0 E x Q ρ L)
    (hf : t = false → CW P n w0 E y Q ρ L) : CW P n w0 E (.cond c x y) Q ρ L :=
  fun a w h1 h2 => wp_cond_split (by rw [h1.eval]; exact hc) (fun h => ht h a w h1 h2) (fun h => hf h a w h1 h2)
theorem CW.cond_t {c : Operand} {x y : Code} {Q : Post} {ρ : Nat → Value} {L : List Ent} (hc : ev n ρ c = .bool true) (h : CW P n w0 E x Q ρ L) : CW P n w0 E (.cond c x y) Q ρ L :=
  fun a w h1 h2 => wp_cond_true (by rw [h1.eval]; exact hc) (h a w h1 h2)
theorem CW.cond_f {c : Operand} {x y : Code} {Q : Post} {ρ : Nat → Value} {L : List Ent} (hc : ev n ρ c = .bool false) (h : CW P n w0 E y Q ρ L) : CW P n w0 E (.cond c x y) Q ρ L :=
  fun a w h1 h2 => wp_cond_false (by rw [h1.eval]; exact hc) (h a w h1 h2)
/-- A test on numbers. -/
theorem CW.cond_dec {c : Operand} {x y : Code} {p : Prop} [Decidable p] {Q : Post} {ρ : Nat → Value} {L : List Ent} (hc : ev n ρ c = .bool (decide p)) (ht : p → CW P n w0 E x Q ρ L)
    (hf : ¬ p → CW P n w0 E y Q ρ L) : CW P n w0 E (.cond c x y) Q ρ L :=
  CW.cond hc (fun h => ht (of_decide_eq_true h)) (fun h => hf (of_decide_eq_false h))

/-- A loop: an invariant over whatever states, a measure on them. -/
theorem CW.loop {σ : Type} {c : Code} {Q : Post} {ρ : Nat → Value} {L : List Ent} (St : σ → (Nat → Value) → List Ent → Prop) (μ : σ → Nat) (s0 : σ) (h0 : St s0 ρ L)
    (round : ∀ s ρ L, St s ρ L → CW P n w0 E c (thenQ (fun ρ' L' => ∃ s', St s' ρ' L' ∧ μ s' < μ s) Q) ρ L) : CW P n w0 E (.loop c) Q ρ L := by
  have key : ∀ k s ρ L a w, μ s < k → St s ρ L → FR n ρ a → Cl w0 E L w → Code.rounds P c (up n w0 E Q) k a w := by
    intro k
    induction k with
    | zero => intro s ρ L a w hk; omega
    | succ k ih =>
      intro s ρ L a w hk hs hf hc
      rw [rounds_succ]
      refine Code.wp_mono (up_then fun ρ' L' a' w' hf' hc' ⟨s', hs', hlt⟩ => ih s' ρ' L' a' w' (by omega) hs' hf' hc') (round s ρ L hs a w hf hc)
  exact fun a w hf hc => wp_loop_rounds (μ s0 + 1) (key _ s0 ρ L a w (by omega) h0 hf hc)

/-! ### Regions -/
def OW (P : Program) (n : Nat) (w0 : World) (E : List Nat) (ops : Array Oper) (rest : List Oper) (Q : Post) (ρ : Nat → Value) (L : List Ent) : Prop :=
  ∀ a w, FR n ρ a → Cl w0 E L w → wpList P ops (up n w0 E Q) rest a w

theorem CW.region {id : Nat} {l : List Oper} {Q : Post} {ρ : Nat → Value} {L : List Ent} (h : OW P n w0 E l.toArray l Q ρ L) : CW P n w0 E (.region id l.toArray false) Q ρ L :=
  fun a w hf hc => wp_region_lit (h a w hf hc)

theorem OW.nil {ops : Array Oper} {Q : Post} {ρ : Nat → Value} {L : List Ent} (h : Q .normal ρ L) : OW P n w0 E ops [] Q ρ L :=
  fun a w hf hc => wpList_nil ⟨ρ, L, hf, hc, h⟩

/-- One operation, in every world of the class: a value, and the class is kept. -/
def Yq (P : Program) (n : Nat) (w0 : World) (E : List Nat) (o : Oper) (ρ : Nat → Value) (L : List Ent) (v : Value) : Prop :=
  ∀ w, Cl w0 E L w → Oper.quietUpon P (Cl w0 E L) w v ((execOp (ev n ρ) o).run P w)

theorem OW.q {ops : Array Oper} {o : Oper} {rest : List Oper} {Q : Post} {ρ : Nat → Value} {L : List Ent} {v : Value} {d : Tmp} (hw : Region.wanted o (yl n ops ρ) = true) (hd : o.dst = some d)
    (hy : Yq P n w0 E o ρ L v) (h : OW P n w0 E ops rest Q (upd ρ d v) L) : OW P n w0 E ops (o :: rest) Q ρ L := by
  intro a w hf hc
  refine wpList_step fun K hK => ?_
  rw [hf.yielded, if_pos hw]
  have h1 := hy w hc
  rw [← hf.eval] at h1
  have hp : FR n (upd ρ d v) (a.put o.dst v) := by have := hf.put o.dst v; rwa [hd] at this ⊢
  unfold Oper.wp
  generalize (execOp a.eval o).run P w = r at h1 ⊢
  cases r with
  | ok x w' =>
    cases x <;> simp only [Oper.quietUpon] at h1 <;> simp only [Oper.upon]
    case value u => obtain ⟨rfl, rfl⟩ := h1; exact hK _ _ (h _ _ hp hc)
    case skip => obtain ⟨rfl, rfl⟩ := h1; exact hK _ _ (h _ _ hp hc)
    case enter f args =>
      obtain ⟨rfl, hcall⟩ := h1
      exact hcall.mono fun e w'' ⟨he, hc'⟩ => by subst he; exact hK _ _ (h _ _ hp hc')
  | halt x w' => simp only [Oper.quietUpon] at h1

/-- The same, nothing being written. -/
theorem OW.q0 {ops : Array Oper} {o : Oper} {rest : List Oper} {Q : Post} {ρ : Nat → Value} {L : List Ent} {v : Value} (hw : Region.wanted o (yl n ops ρ) = true) (hd : o.dst = none)
    (hy : Yq P n w0 E o ρ L v) (h : OW P n w0 E ops rest Q ρ L) : OW P n w0 E ops (o :: rest) Q ρ L := by
  intro a w hf hc
  refine wpList_step fun K hK => ?_
  rw [hf.yielded, if_pos hw]
  have h1 := hy w hc
  rw [← hf.eval] at h1
  have hp : ∀ v, FR n ρ (a.put o.dst v) := fun v => by have := hf.put o.dst v; rwa [hd] at this ⊢
  unfold Oper.wp
  generalize (execOp a.eval o).run P w = r at h1 ⊢
  cases r with
  | ok x w' =>
    cases x <;> simp only [Oper.quietUpon] at h1 <;> simp only [Oper.upon]
    case value u => obtain ⟨rfl, rfl⟩ := h1; exact hK _ _ (h _ _ (hp _) hc)
    case skip => obtain ⟨rfl, rfl⟩ := h1; exact hK _ _ (h _ _ (hp _) hc)
    case enter f args =>
      obtain ⟨rfl, hcall⟩ := h1
      exact hcall.mono fun e w'' ⟨he, hc'⟩ => by subst he; exact hK _ _ (h _ _ (hp _) hc')
  | halt x w' => simp only [Oper.quietUpon] at h1

theorem OW.skip {ops : Array Oper} {o : Oper} {rest : List Oper} {Q : Post} {ρ : Nat → Value} {L : List Ent} {d : Tmp} (hw : Region.wanted o (yl n ops ρ) = false) (hd : o.dst = some d)
    (h : OW P n w0 E ops rest Q (upd ρ d undef) L) : OW P n w0 E ops (o :: rest) Q ρ L := by
  intro a w hf hc
  refine wpList_step fun K hK => ?_
  rw [hf.yielded, if_neg (by rw [hw]; simp)]
  have hp : FR n (upd ρ d undef) (a.put o.dst undef) := by have := hf.put o.dst undef; rwa [hd] at this ⊢
  exact hK _ _ (h _ _ hp hc)

/-- An operation that turns memory: one that yields a value (or nothing), in another class. -/
theorem OW.m {ops : Array Oper} {o : Oper} {rest : List Oper} {Q : Post} {ρ : Nat → Value} {L : List Ent} (hw : Region.wanted o (yl n ops ρ) = true)
    (h : ∀ w, Cl w0 E L w → ∃ v L' w', ((execOp (ev n ρ) o).run P w = .ok (.value v) w' ∨ ((execOp (ev n ρ) o).run P w = .ok .skip w' ∧ v = undef)) ∧ Cl w0 E L' w' ∧ OW P n w0 E ops rest Q (updO ρ o.dst v) L') :
    OW P n w0 E ops (o :: rest) Q ρ L := by
  intro a w hf hc
  refine wpList_step fun K hK => ?_
  rw [hf.yielded, if_pos hw]
  obtain ⟨v, L', w', hr, hc', hn⟩ := h w hc
  rw [← hf.eval] at hr
  unfold Oper.wp
  rcases hr with hr | ⟨hr, rfl⟩ <;> (rw [hr]; exact hK _ _ (hn _ _ (hf.put _ _) hc'))

/-- A call that may turn memory, or hand out new one. -/
theorem OW.call {ops : Array Oper} {o : Oper} {rest : List Oper} {Q : Post} {ρ : Nat → Value} {L : List Ent} {f : FuncId} {av : Array Value} {d : Tmp} (hw : Region.wanted o (yl n ops ρ) = true) (hd : o.dst = some d)
    (hr : ∀ w, (execOp (ev n ρ) o).run P w = .ok (.enter f av) w)
    (h : ∀ w, Cl w0 E L w → Calls P f av w fun e w' => ∃ v L', e = .returned v ∧ Cl w0 E L' w' ∧ OW P n w0 E ops rest Q (upd ρ d v) L') :
    OW P n w0 E ops (o :: rest) Q ρ L := by
  intro a w hf hc
  refine wpList_step fun K hK => ?_
  rw [hf.yielded, if_pos hw]
  have hr' := hr w
  rw [← hf.eval] at hr'
  unfold Oper.wp
  rw [hr']
  simp only [Oper.upon]
  refine (h w hc).mono fun e w' ⟨v, L', he, hc', hn⟩ => ?_
  subst he
  have hp : FR n (upd ρ d v) (a.put o.dst v) := by have := hf.put o.dst v; rwa [hd] at this ⊢
  exact hK _ _ (hn _ _ hp hc')

/-! ### A region that draws its order -/
def QW (P : Program) (n : Nat) (w0 : World) (E : List Nat) (ops : Array Oper) (rest : List Oper) (K : (Nat → Value) → Prop) (L : List Ent) (ρ : Nat → Value) : Prop :=
  ∀ a, FR n ρ a → wpQuiet P ops (Cl w0 E L) (fun a' => ∃ ρ', FR n ρ' a' ∧ K ρ') rest a

theorem QW.nil {ops : Array Oper} {K : (Nat → Value) → Prop} {ρ : Nat → Value} {L : List Ent} (h : K ρ) : QW P n w0 E ops [] K L ρ :=
  fun a hf => wpQuiet_nil ⟨ρ, hf, h⟩

theorem QW.q {ops : Array Oper} {o : Oper} {rest : List Oper} {K : (Nat → Value) → Prop} {ρ : Nat → Value} {L : List Ent} {v : Value} {d : Tmp} (hw : Region.wanted o (yl n ops ρ) = true) (hd : o.dst = some d)
    (hy : Yq P n w0 E o ρ L v) (h : QW P n w0 E ops rest K L (upd ρ d v)) : QW P n w0 E ops (o :: rest) K L ρ := by
  intro a hf
  refine wpQuiet_step fun K' hK => ?_
  rw [hf.yielded, if_pos hw]
  have hp : FR n (upd ρ d v) (a.put o.dst v) := by have := hf.put o.dst v; rwa [hd] at this ⊢
  refine ⟨v, fun w hc => ?_, hK _ (h _ hp)⟩
  have := hy w hc
  rw [← hf.eval] at this
  exact this

theorem QW.q0 {ops : Array Oper} {o : Oper} {rest : List Oper} {K : (Nat → Value) → Prop} {ρ : Nat → Value} {L : List Ent} {v : Value} (hw : Region.wanted o (yl n ops ρ) = true) (hd : o.dst = none)
    (hy : Yq P n w0 E o ρ L v) (h : QW P n w0 E ops rest K L ρ) : QW P n w0 E ops (o :: rest) K L ρ := by
  intro a hf
  refine wpQuiet_step fun K' hK => ?_
  rw [hf.yielded, if_pos hw]
  have hp : FR n ρ (a.put o.dst v) := by have := hf.put o.dst v; rwa [hd] at this ⊢
  refine ⟨v, fun w hc => ?_, hK _ (h _ hp)⟩
  have := hy w hc
  rw [← hf.eval] at this
  exact this

theorem QW.skip {ops : Array Oper} {o : Oper} {rest : List Oper} {K : (Nat → Value) → Prop} {ρ : Nat → Value} {L : List Ent} {d : Tmp} (hw : Region.wanted o (yl n ops ρ) = false) (hd : o.dst = some d)
    (h : QW P n w0 E ops rest K L (upd ρ d undef)) : QW P n w0 E ops (o :: rest) K L ρ := by
  intro a hf
  refine wpQuiet_step fun K' hK => ?_
  rw [hf.yielded, if_neg (by rw [hw]; simp)]
  have hp : FR n (upd ρ d undef) (a.put o.dst undef) := by have := hf.put o.dst undef; rwa [hd] at this ⊢
  exact hK _ (h _ hp)

/-- All its operations are quiet. -/
theorem CW.draw {id : Nat} {l : List Oper} {Q : Post} {ρ : Nat → Value} {L : List Ent} (hm : P.follows .mixedOrders = true) (hB : Region.lexB .any l.toArray = true)
    (h : QW P n w0 E l.toArray l (fun ρ' => Q .normal ρ' L) L ρ) : CW P n w0 E (.region id l.toArray true) Q ρ L := by
  intro a w hf hc
  refine wp_region_quiet (C := Cl w0 E L) hm hB (hc.drew _) ?_
  have key : ∀ (r : List Oper) (a : Act), wpQuiet P l.toArray (Cl w0 E L) (fun a' => ∃ ρ', FR n ρ' a' ∧ Q .normal ρ' L) r a →
      wpQuiet P l.toArray (Cl w0 E L) (fun a' => ∀ w', Cl w0 E L w' → up n w0 E Q .normal a' w') r a := by
    intro r
    induction r with
    | nil => intro a ⟨ρ', h1, h2⟩; exact fun w' hw' => ⟨ρ', L, h1, hw', h2⟩
    | cons o r ih =>
      intro a h
      unfold wpQuiet at h ⊢
      split
      · rename_i hw; rw [if_pos hw] at h; exact Oper.quiet_mono ih h
      · rename_i hw; rw [if_neg hw] at h; exact ih _ h
  exact key l a (by simpa using h a hf)

/-! ### The call of a whole function -/
def fin (P : Program) (fn : Func) (w0 : World) (E : List Nat) (R : Ending → World → Prop) : Post := fun e ρ L =>
  (e = .normal ∨ e = .ret) ∧ ∀ a w, FR fn.ntmps ρ a → Cl w0 E L w → ∃ v, (results fn a.tmps).run P w = .ok v w ∧ R (.returned v) w

def args0 (args : List Value) : Nat → Value := fun t => args.getD t undef

theorem calls_of_CW {f : FuncId} {fn : Func} {c : Code} {args : List Value} {w : World} {R : Ending → World → Prop} {E : List Nat} {L : List Ent}
    (hf : P.funcs[f]? = some fn) (hb : fn.body = some c) (hn : args.length ≤ fn.ntmps) (hL : Cl w E L w)
    (h : CW P fn.ntmps w E c (fin P fn w E R) (args0 args) L) : Calls P f args.toArray w R := by
  refine calls_of_wp hf hb ?_
  have hfr : FR fn.ntmps (args0 args) { tmps := args.toArray ++ Array.replicate (fn.ntmps - args.toArray.size) undef, defers := [] } := by
    refine ⟨rfl, by simp; omega, fun t ht => ?_⟩
    simp only [args0]
    by_cases hl : t < args.length
    · rw [Array.getElem?_append_left (by simpa using hl)]
      simp [hl]
    · rw [Array.getElem?_append_right (by simp; omega)]
      simp only [List.size_toArray, Array.getElem?_replicate]
      rw [if_pos (by omega)]
      simp [List.getD_eq_getElem?_getD, List.getElem?_eq_none (Nat.le_of_not_lt hl)]
  refine Code.wp_mono (fun e a w' ⟨ρ, L, h1, h2, h3, h4⟩ => ?_) (h _ _ hfr hL)
  obtain ⟨v, hr, hR⟩ := h4 a w' h1 h2
  rcases h3 with rfl | rfl <;> exact ⟨h1.defers, v, hr, hR⟩

/-- What one result variable tells. -/
def RVal (P : Program) (n : Nat) (w0 : World) (E : List Nat) (ρ : Nat → Value) (L : List Ent) : ResultVar → Value → Prop
  | .tmp t, v => t < n ∧ ρ t = v
  | .cell p T, v => p < n ∧ ∃ a, ρ p = .pointer (some a) ∧ ∀ w, Cl w0 E L w → (loadVar T a).run P w = .ok v w

/-- The same of the frame itself. -/
def RFact (P : Program) (a : Act) (w : World) : ResultVar → Value → Prop
  | .tmp t, v => a.tmps[t]?.getD undef = v
  | .cell p T, v => ∃ ad, a.tmps[p]?.getD undef = .pointer (some ad) ∧ (loadVar T ad).run P w = .ok v w

theorem RVal.fact {ρ : Nat → Value} {L : List Ent} {r : ResultVar} {v : Value} (h : RVal P n w0 E ρ L r v) {a : Act} {w : World} (hf : FR n ρ a) (hc : Cl w0 E L w) : RFact P a w r v := by
  cases r with
  | tmp t =>
    obtain ⟨ht, rfl⟩ := h
    simp [RFact, hf.at_ t ht]
  | cell p T =>
    obtain ⟨hp, ad, ha, hl⟩ := h
    exact ⟨ad, by simp [hf.at_ p hp, ha], hl w hc⟩

theorem fin0 {fn : Func} {R : Ending → World → Prop} {e : Exit} {ρ : Nat → Value} {L : List Ent} (he : e = .normal ∨ e = .ret) (hr : fn.results = #[])
    (hR : ∀ w, Cl w0 E L w → R (.returned (.tuple #[])) w) : fin P fn w0 E R e ρ L := by
  refine ⟨he, fun a w hf hc => ⟨.tuple #[], ?_, hR w hc⟩⟩
  unfold results
  rw [hr]
  clear hr
  simp

theorem fin1 {fn : Func} {R : Ending → World → Prop} {e : Exit} {ρ : Nat → Value} {L : List Ent} {r1 : ResultVar} {v1 : Value} (he : e = .normal ∨ e = .ret) (hr : fn.results = #[r1])
    (h1 : RVal P fn.ntmps w0 E ρ L r1 v1) (hR : ∀ w, Cl w0 E L w → R (.returned (v1)) w) : fin P fn w0 E R e ρ L := by
  refine ⟨he, fun a w hf hc => ⟨v1, ?_, hR w hc⟩⟩
  have g1 := h1.fact hf hc
  clear h1
  unfold results
  rw [hr]
  clear hr
  cases r1
  all_goals simp only [RFact] at g1
  all_goals try (obtain ⟨ad1, ga1, gb1⟩ := g1)
  all_goals simp [asAddr, *]

theorem fin2 {fn : Func} {R : Ending → World → Prop} {e : Exit} {ρ : Nat → Value} {L : List Ent} {r1 r2 : ResultVar} {v1 v2 : Value} (he : e = .normal ∨ e = .ret) (hr : fn.results = #[r1, r2])
    (h1 : RVal P fn.ntmps w0 E ρ L r1 v1) (h2 : RVal P fn.ntmps w0 E ρ L r2 v2) (hR : ∀ w, Cl w0 E L w → R (.returned (.tuple #[v1, v2])) w) : fin P fn w0 E R e ρ L := by
  refine ⟨he, fun a w hf hc => ⟨.tuple #[v1, v2], ?_, hR w hc⟩⟩
  have g1 := h1.fact hf hc
  have g2 := h2.fact hf hc
  clear h1 h2
  unfold results
  rw [hr]
  clear hr
  cases r1 <;> cases r2
  all_goals simp only [RFact] at g1 g2
  all_goals try (obtain ⟨ad1, ga1, gb1⟩ := g1)
  all_goals try (obtain ⟨ad2, ga2, gb2⟩ := g2)
  all_goals simp [asAddr, *]

theorem fin3 {fn : Func} {R : Ending → World → Prop} {e : Exit} {ρ : Nat → Value} {L : List Ent} {r1 r2 r3 : ResultVar} {v1 v2 v3 : Value} (he : e = .normal ∨ e = .ret) (hr : fn.results = #[r1, r2, r3])
    (h1 : RVal P fn.ntmps w0 E ρ L r1 v1) (h2 : RVal P fn.ntmps w0 E ρ L r2 v2) (h3 : RVal P fn.ntmps w0 E ρ L r3 v3) (hR : ∀ w, Cl w0 E L w → R (.returned (.tuple #[v1, v2, v3])) w) : fin P fn w0 E R e ρ L := by
  refine ⟨he, fun a w hf hc => ⟨.tuple #[v1, v2, v3], ?_, hR w hc⟩⟩
  have g1 := h1.fact hf hc
  have g2 := h2.fact hf hc
  have g3 := h3.fact hf hc
  clear h1 h2 h3
  unfold results
  rw [hr]
  clear hr
  cases r1 <;> cases r2 <;> cases r3
  all_goals simp only [RFact] at g1 g2 g3
  all_goals try (obtain ⟨ad1, ga1, gb1⟩ := g1)
  all_goals try (obtain ⟨ad2, ga2, gb2⟩ := g2)
  all_goals try (obtain ⟨ad3, ga3, gb3⟩ := g3)
  all_goals simp [asAddr, *]

end
end Go.WL

namespace Go.WL

section
variable {P : Program} {ops : Array Oper} {md : Region.Mode} {C : World → Prop}

/-- While any of the first n operations is to come, only such come; then D holds. -/
def heads (P : Program) (md : Region.Mode) (ops : Array Oper) (C : World → Prop) (n : Nat) (D : Array Bool → Act → Prop) : Nat → Array Bool → Act → Prop
  | 0, listed, a => D listed a
  | f + 1, listed, a =>
    Region.ready md ops listed ≠ [] ∧ ∀ i ∈ Region.ready md ops listed, i < n ∧ qOp P ops C i (heads P md ops C n D f (listed.setIfInBounds i true)) a

theorem wpAny_of_heads {n g : Nat} {D : Array Bool → Act → Prop} {Q' : Exit → Act → World → Prop} (hD : ∀ listed a w, C w → D listed a → wpAny P md ops Q' g listed a w) (f : Nat) :
    ∀ (listed : Array Bool) (a : Act) (w : World), C w → heads P md ops C n D f listed a → wpAny P md ops Q' (f + g) listed a w := by
  induction f with
  | zero => intro listed a w hw h; rw [Nat.zero_add]; exact hD _ _ _ hw h
  | succ f ih =>
    intro listed a w hw h
    rw [show f + 1 + g = (f + g) + 1 by omega]
    exact ⟨fun h0 => absurd h0 h.1, fun i hi => wpOp_of_qOp hw (fun a' w' hw' h' => ih _ a' w' hw' h') (h.2 i hi).2⟩

theorem heads_first {n i : Nat} {oi : Oper} {v : Value} {D : Array Bool → Act → Prop} (hi : ops[i]? = some oi) (hsel : Region.noSelect ops = true)
    (hs : Region.sinkB md ops n = true) (hc : Region.chainB md ops n = true) (hn : n < ops.size) (hin : i < n)
    (hdone : ∀ listed a, D listed a → ∀ j ∈ Region.ready md ops listed, n ≤ j) (f : Nat) :
    ∀ (listed : Array Bool) (a : Act), HeadInv md ops n listed →
      (∀ j oj, ops[j]? = some oj → j ≠ i → listed.getD j true = false → (∀ e ∈ oj.after, Region.binds md e = true → e.on ≠ i) → oi.apart ops oj = true) →
      i ∈ Region.ready md ops listed → YieldsIn P ops C oi v a →
      heads P md ops C n D f (listed.setIfInBounds i true) (a.put oi.dst v) → heads P md ops C n D (f + 1) listed a := by
  have below : ∀ (listed : Array Bool), HeadInv md ops n listed → i ∈ Region.ready md ops listed → ∀ j ∈ Region.ready md ops listed, j < n := by
    intro listed inv hr j hj
    rcases Nat.lt_or_ge j n with h | h
    · exact h
    · exact absurd hj (tail_waits hs hc hn inv _ i rfl hin (mem_ready.1 hr).1 j h)
  induction f with
  | zero =>
    intro listed a inv _ hr hy H
    refine ⟨fun h => (by rw [h] at hr; cases hr), fun j hj => ⟨below listed inv hr j hj, ?_⟩⟩
    by_cases hji : j = i
    · rw [hji]; exact hy.qOp hi H
    · have h1 := hdone _ _ H j (ready_mono hj hji)
      have h2 := below listed inv hr j hj
      omega
  | succ f ih =>
    intro listed a inv hfree hr hy H
    refine ⟨fun h => (by rw [h] at hr; cases hr), fun j hj => ⟨below listed inv hr j hj, ?_⟩⟩
    by_cases hji : j = i
    · rw [hji]; exact hy.qOp hi H
    · obtain ⟨hjun, oj, hoj, hall⟩ := mem_ready.1 hj
      have hnot : ∀ e ∈ oj.after, Region.binds md e = true → e.on ≠ i := fun e he hb heq => by
        have h1 := hall e he hb
        rw [heq, getD_both (mem_ready.1 hr).1] at h1
        cases h1
      have h2 := qOp_put hoj (hfree j oj hoj hji hjun hnot) (fun cs b => Region.noSelect_spec hsel i oi cs b hi) (fun cs b => Region.noSelect_spec hsel j oj cs b hoj) hy (H.2 j (ready_mono hj hji)).2
      refine qOp_mono (fun a' h3 => ih (listed.setIfInBounds j true) a' (inv.set hj (below listed inv hr j hj)) ?_ (ready_mono hr (Ne.symm hji)) h3.1 ?_) h2
      · intro k ok hk hki hun hno
        refine hfree k ok hk hki ?_ hno
        by_cases hjk : j = k
        · subst hjk; exact hjun
        · rw [getD_set_ne true hjk] at hun; exact hun
      · rw [Array.setIfInBounds_comm _ _ hji]
        exact h3.2

theorem heads_lex {n g : Nat} {D : Act → Prop} (hsel : Region.noSelect ops = true) (hs : Region.sinkB md ops n = true) (hc : Region.chainB md ops n = true) (hn : n < ops.size) (l : List Oper) :
    ∀ (k : Nat) (listed : Array Bool) (a : Act), (∀ j, j < l.length → l[j]? = ops[k + j]?) → k + l.length = n → HeadInv md ops n listed →
    Region.lexHead md ops g l.length k listed = true → wpQuiet P ops C D l a →
    heads P md ops C n (fun listed' a' => Region.seqB md ops g n listed' = true ∧ D a') l.length listed a := by
  induction l with
  | nil =>
    intro k listed a _ hk _ hB h
    have : k = n := by simpa using hk
    subst this
    exact ⟨by simpa [Region.lexHead] using hB, h⟩
  | cons o l ih =>
    intro k listed a hl hk inv hB h
    have h0 : ops[k]? = some o := by simpa using (hl 0 (by simp)).symm
    simp only [List.length_cons, Region.lexHead, Bool.and_eq_true] at hB
    have hkn : k < n := by simp only [List.length_cons] at hk; omega
    have hr' : k ∈ Region.ready md ops listed := by simpa using hB.1.1
    have hst : qOp P ops C k (wpQuiet P ops C D l) a := by unfold qOp; simp only [h0]; exact h
    obtain ⟨v, hy, hK⟩ := yieldsIn_of_qOp h0 hst
    refine heads_first h0 hsel hs hc hn hkn (fun listed' a' hL => seqB_ready hL.1) l.length listed a inv (Region.free_spec h0 hB.1.2) hr' hy ?_
    refine ih (k + 1) _ _ (fun j hj => ?_) (by simp only [List.length_cons] at hk; omega) (inv.set hr' hkn) hB.2 hK
    have := hl (j + 1) (by simp; omega)
    simpa [Nat.add_assoc, Nat.add_comm 1 j] using this

theorem wp_region_quiet_tail {id : Nat} {Q : Exit → Act → World → Prop} {a : Act} {w : World} {l : List Oper} (n : Nat) (hm : P.follows .mixedOrders = true) (hB : Region.lexTailB .any l.toArray n = true)
    (hC : C { w with drawn := w.drawn + 1 }) (h : wpQuiet P l.toArray C (fun a' => ∀ w', C w' → wpList P l.toArray Q (l.drop n) a' w') (l.take n) a) : (Code.region id l.toArray true).wp P Q a w := by
  simp only [Region.lexTailB, Bool.and_eq_true, decide_eq_true_eq] at hB
  obtain ⟨⟨⟨⟨hsel, hn⟩, hs⟩, hc⟩, hlex⟩ := hB
  have hn' : n < l.length := by simpa using hn
  have htl : (l.take n).length = n := by simp; omega
  have hdl : (l.drop n).length = l.toArray.size - n := by simp
  have inv0 : HeadInv .any l.toArray n (Array.replicate l.toArray.size false) :=
    ⟨by simp, fun j oj _ hl => (by rw [getD_replicate_false] at hl; cases hl), fun t _ ht => getD_in (by simpa using ht) (getD_replicate_false _ _)⟩
  have H := heads_lex (md := .any) (g := l.toArray.size - n) hsel hs hc hn (l.take n) 0 _ a (fun j hj => by
    have hj' : j < n := by rw [htl] at hj; exact hj
    simp [hj']) (by simpa using htl) inv0 (by rw [htl]; exact hlex) h
  refine wp_region_any hm ?_
  have := wpAny_of_heads (Q' := Q) (g := l.toArray.size - n) (fun listed a' w' hw' hL => by
    have := wpAny_of_seq (md := .any) (Q' := Q) (l.drop n) n listed a' w' (fun j => by simp [List.getElem?_drop]) (by rw [hdl]; exact hL.1) (hL.2 w' hw')
    rwa [hdl] at this) _ _ _ _ hC H
  rw [htl, show n + (l.toArray.size - n) = l.toArray.size by omega] at this
  exact this
end

/-- The first m operations are quiet; the others come in one order. -/
theorem CW.drawT {P : Program} {n : Nat} {w0 : World} {E : List Nat} {id : Nat} {l : List Oper} {Q : Post} {ρ : Nat → Value} {L : List Ent} (m : Nat) (hm : P.follows .mixedOrders = true) (hB : Region.lexTailB .any l.toArray m = true)
    (h : QW P n w0 E l.toArray (l.take m) (fun ρ' => OW P n w0 E l.toArray (l.drop m) Q ρ' L) L ρ) : CW P n w0 E (.region id l.toArray true) Q ρ L := by
  intro a w hf hc
  refine wp_region_quiet_tail (C := Cl w0 E L) m hm hB (hc.drew _) ?_
  have key : ∀ (r : List Oper) (a : Act), wpQuiet P l.toArray (Cl w0 E L) (fun a' => ∃ ρ', FR n ρ' a' ∧ OW P n w0 E l.toArray (l.drop m) Q ρ' L) r a →
      wpQuiet P l.toArray (Cl w0 E L) (fun a' => ∀ w', Cl w0 E L w' → wpList P l.toArray (up n w0 E Q) (l.drop m) a' w') r a := by
    intro r
    induction r with
    | nil => intro a ⟨ρ', h1, h2⟩; exact fun w' hw' => h2 _ _ h1 hw'
    | cons o r ih =>
      intro a h
      unfold wpQuiet at h ⊢
      split
      · rename_i hw; rw [if_pos hw] at h; exact Oper.quiet_mono ih h
      · rename_i hw; rw [if_neg hw] at h; exact ih _ h
  exact key _ a (h a hf)

end Go.WL

namespace Go.WL

section
variable {P : Program} {n : Nat} {w0 : World} {E : List Nat} {o : Oper} {ρ : Nat → Value} {L : List Ent}

theorem yq_val {v : Value} (h : ∀ w, Cl w0 E L w → (execOp (ev n ρ) o).run P w = .ok (.value v) w) : Yq P n w0 E o ρ L v := by
  intro w hc
  rw [h w hc]
  exact ⟨rfl, rfl⟩

theorem yq_move {x : Operand} {v : Value} (h : o.op = .move x) (hx : ev n ρ x = v) : Yq P n w0 E o ρ L v :=
  yq_val fun w _ => by simp [execOp, h, hx]
theorem yq_assign {x : Operand} {v : Value} (h : o.op = .assign x) (hx : ev n ρ x = v) : Yq P n w0 E o ρ L v :=
  yq_val fun w _ => by simp [execOp, h, hx]
theorem yq_pick {c x y : Operand} {b : Bool} {v : Value} (h : o.op = .pick c x y) (hc : ev n ρ c = .bool b) (hx : (bif b then ev n ρ x else ev n ρ y) = v) : Yq P n w0 E o ρ L v :=
  yq_val fun w _ => by cases b <;> simp_all [execOp, asBool]
theorem yq_extract {x : Operand} {i : Nat} {vs : Array Value} {v : Value} (h : o.op = .extract x i) (hx : ev n ρ x = .tuple vs) (hv : vs[i]? = some v) : Yq P n w0 E o ρ L v :=
  yq_val fun w _ => by simp [execOp, h, hx, Instr.extract, hv]
theorem yq_nilCheck {x : Operand} {a : Addr} (h : o.op = .nilCheck x) (hx : ev n ρ x = .pointer (some a)) : Yq P n w0 E o ρ L (.pointer (some a)) :=
  yq_val fun w _ => by simp [execOp, h, hx]

/-! ### int -/
theorem eqGuard_int (op : BinOp) (t : TypeId) (x y : Operand) (k k' : IntKind) (a b : Int) (w : World) : (eqGuard op t x y (.int k a) (.int k' b)).run P w = .ok () w := by
  unfold eqGuard
  cases op <;> simp
theorem eqGuard_str (op : BinOp) (t : TypeId) (x y : Operand) (a b : ByteArray) (w : World) : (eqGuard op t x y (.string a) (.string b)).run P w = .ok () w := by
  unfold eqGuard
  cases op <;> simp
theorem eqGuard_bool (op : BinOp) (t : TypeId) (x y : Operand) (a b : Bool) (w : World) : (eqGuard op t x y (.bool a) (.bool b)).run P w = .ok () w := by
  unfold eqGuard
  cases op <;> simp

theorem wrap64_in {m : Int} (h : -9223372036854775808 ≤ m ∧ m ≤ 9223372036854775807) : IntKind.i64.wrap m = m := by
  simp only [IntKind.wrap, IntKind.bits, IntKind.signed]
  simp
  omega

theorem yq_add {t t' : TypeId} {x y : Operand} {a b : Int} (h : o.op = .binOp .add t x y t') (hx : ev n ρ x = .int .i64 a) (hy : ev n ρ y = .int .i64 b)
    (hr : -9223372036854775808 ≤ a + b ∧ a + b ≤ 9223372036854775807) : Yq P n w0 E o ρ L (.int .i64 (a + b)) :=
  yq_val fun w _ => by simp [execOp, h, hx, hy, eqGuard_int, binOp, Op.intArith, wrap64_in hr]
theorem yq_sub {t t' : TypeId} {x y : Operand} {a b : Int} (h : o.op = .binOp .sub t x y t') (hx : ev n ρ x = .int .i64 a) (hy : ev n ρ y = .int .i64 b)
    (hr : -9223372036854775808 ≤ a - b ∧ a - b ≤ 9223372036854775807) : Yq P n w0 E o ρ L (.int .i64 (a - b)) :=
  yq_val fun w _ => by simp [execOp, h, hx, hy, eqGuard_int, binOp, Op.intArith, wrap64_in hr]
theorem yq_mul {t t' : TypeId} {x y : Operand} {a b : Int} (h : o.op = .binOp .mul t x y t') (hx : ev n ρ x = .int .i64 a) (hy : ev n ρ y = .int .i64 b)
    (hr : -9223372036854775808 ≤ a * b ∧ a * b ≤ 9223372036854775807) : Yq P n w0 E o ρ L (.int .i64 (a * b)) :=
  yq_val fun w _ => by simp [execOp, h, hx, hy, eqGuard_int, binOp, Op.intArith, wrap64_in hr]
/-- The bare sum, whatever it is. -/
theorem yq_add_w {t t' : TypeId} {x y : Operand} {a b : Int} (h : o.op = .binOp .add t x y t') (hx : ev n ρ x = .int .i64 a) (hy : ev n ρ y = .int .i64 b) :
    Yq P n w0 E o ρ L (.int .i64 (IntKind.i64.wrap (a + b))) :=
  yq_val fun w _ => by simp [execOp, h, hx, hy, eqGuard_int, binOp, Op.intArith]
theorem yq_quo {t t' : TypeId} {x y : Operand} {a b : Int} (h : o.op = .binOp .quo t x y t') (hx : ev n ρ x = .int .i64 a) (hy : ev n ρ y = .int .i64 b)
    (hr : 0 ≤ a ∧ 1 ≤ b ∧ a ≤ 9223372036854775807) : Yq P n w0 E o ρ L (.int .i64 (a / b)) := by
  obtain ⟨h0, h1, h2⟩ := hr
  have e : a.tdiv b = a / b := Int.tdiv_eq_ediv_of_nonneg h0
  have hb : b ≠ 0 := by omega
  have hle : a / b ≤ a := Int.ediv_le_self b h0
  have hge : 0 ≤ a / b := Int.ediv_nonneg h0 (by omega)
  exact yq_val fun w _ => by simp [execOp, h, hx, hy, eqGuard_int, binOp, Op.intDiv, hb, e, wrap64_in (m := a / b) ⟨by omega, by omega⟩]
theorem yq_rem {t t' : TypeId} {x y : Operand} {a b : Int} (h : o.op = .binOp .rem t x y t') (hx : ev n ρ x = .int .i64 a) (hy : ev n ρ y = .int .i64 b)
    (hr : 0 ≤ a ∧ 1 ≤ b) : Yq P n w0 E o ρ L (.int .i64 (a % b)) := by
  obtain ⟨h0, h1⟩ := hr
  have e : a.tmod b = a % b := Int.tmod_eq_emod_of_nonneg h0
  have hb : b ≠ 0 := by omega
  exact yq_val fun w _ => by simp [execOp, h, hx, hy, eqGuard_int, binOp, Op.intDiv, hb, e]
theorem yq_lss {k : IntKind} {t t' : TypeId} {x y : Operand} {a b : Int} (h : o.op = .binOp .lss t x y t') (hx : ev n ρ x = .int k a) (hy : ev n ρ y = .int k b) : Yq P n w0 E o ρ L (.bool (decide (a < b))) :=
  yq_val fun w _ => by simp [execOp, h, hx, hy, eqGuard_int, binOp, Op.intCmp]
theorem yq_leq {k : IntKind} {t t' : TypeId} {x y : Operand} {a b : Int} (h : o.op = .binOp .leq t x y t') (hx : ev n ρ x = .int k a) (hy : ev n ρ y = .int k b) : Yq P n w0 E o ρ L (.bool (decide (a ≤ b))) :=
  yq_val fun w _ => by simp [execOp, h, hx, hy, eqGuard_int, binOp, Op.intCmp]
theorem yq_gtr {k : IntKind} {t t' : TypeId} {x y : Operand} {a b : Int} (h : o.op = .binOp .gtr t x y t') (hx : ev n ρ x = .int k a) (hy : ev n ρ y = .int k b) : Yq P n w0 E o ρ L (.bool (decide (b < a))) :=
  yq_val fun w _ => by simp [execOp, h, hx, hy, eqGuard_int, binOp, Op.intCmp]
theorem yq_geq {k : IntKind} {t t' : TypeId} {x y : Operand} {a b : Int} (h : o.op = .binOp .geq t x y t') (hx : ev n ρ x = .int k a) (hy : ev n ρ y = .int k b) : Yq P n w0 E o ρ L (.bool (decide (b ≤ a))) :=
  yq_val fun w _ => by simp [execOp, h, hx, hy, eqGuard_int, binOp, Op.intCmp]
theorem yq_eql {k : IntKind} {t t' : TypeId} {x y : Operand} {a b : Int} (h : o.op = .binOp .eql t x y t') (hx : ev n ρ x = .int k a) (hy : ev n ρ y = .int k b) : Yq P n w0 E o ρ L (.bool (decide (a = b))) :=
  yq_val fun w _ => by simp [execOp, h, hx, hy, eqGuard_int, binOp, Op.intCmp]; rfl
theorem yq_neq {k : IntKind} {t t' : TypeId} {x y : Operand} {a b : Int} (h : o.op = .binOp .neq t x y t') (hx : ev n ρ x = .int k a) (hy : ev n ρ y = .int k b) : Yq P n w0 E o ρ L (.bool (decide (a ≠ b))) :=
  yq_val fun w _ => by
    simp [execOp, h, hx, hy, eqGuard_int, binOp, Op.intCmp]
    by_cases e : a = b <;> simp [e]

/-! ### unsigned kinds, by Lean's own -/
theorem wrap_u64 (m : Int) : IntKind.u64.wrap m = m % 18446744073709551616 := by simp [IntKind.wrap, IntKind.bits, IntKind.signed]
theorem wrap_u32 (m : Int) : IntKind.u32.wrap m = m % 4294967296 := by simp [IntKind.wrap, IntKind.bits, IntKind.signed]
theorem wrap_u8 (m : Int) : IntKind.u8.wrap m = m % 256 := by simp [IntKind.wrap, IntKind.bits, IntKind.signed]
abbrev U32 (x : UInt32) : Value := .int .u32 (x.toNat : Int)
abbrev U64 (x : UInt64) : Value := .int .u64 (x.toNat : Int)
abbrev U8 (x : UInt8) : Value := .int .u8 (x.toNat : Int)

theorem yq_add_u32 {t t' : TypeId} {x y : Operand} {a b : UInt32} (h : o.op = .binOp .add t x y t') (hx : ev n ρ x = U32 a) (hy : ev n ρ y = U32 b) : Yq P n w0 E o ρ L (U32 (a + b)) :=
  yq_val fun w _ => by
    have e : IntKind.u32.wrap ((a.toNat : Int) + b.toNat) = ((a + b).toNat : Int) := by
      rw [wrap_u32, UInt32.toNat_add]; omega
    simp [execOp, h, hx, hy, eqGuard_int, binOp, Op.intArith, e]
theorem ofInt_nat (w m : Nat) : BitVec.ofInt w (m : Int) = BitVec.ofNat w m := by
  rw [BitVec.ofInt_natCast]
theorem yq_xor_u32 {t t' : TypeId} {x y : Operand} {a b : UInt32} (h : o.op = .binOp .xor t x y t') (hx : ev n ρ x = U32 a) (hy : ev n ρ y = U32 b) : Yq P n w0 E o ρ L (U32 (a ^^^ b)) :=
  yq_val fun w _ => by
    have e : IntKind.u32.wrap ((BitVec.ofInt 32 (a.toNat : Int) ^^^ BitVec.ofInt 32 (b.toNat : Int)).toNat : Int) = ((a ^^^ b).toNat : Int) := by
      rw [wrap_u32, ofInt_nat, ofInt_nat, BitVec.toNat_xor, BitVec.toNat_ofNat, BitVec.toNat_ofNat, UInt32.toNat_xor, Nat.mod_eq_of_lt a.toNat_lt, Nat.mod_eq_of_lt b.toNat_lt]
      have := (a ^^^ b).toNat_lt
      rw [UInt32.toNat_xor] at this
      omega
    simp only [execOp, h, hx, hy, Sem.run_bind, eqGuard_int]
    exact congrArg (fun z => Result.ok (Next.value (Value.int .u32 z)) w) e
theorem yq_and_u32 {t t' : TypeId} {x y : Operand} {a b : UInt32} (h : o.op = .binOp .and t x y t') (hx : ev n ρ x = U32 a) (hy : ev n ρ y = U32 b) : Yq P n w0 E o ρ L (U32 (a &&& b)) :=
  yq_val fun w _ => by
    have e : IntKind.u32.wrap ((BitVec.ofInt 32 (a.toNat : Int) &&& BitVec.ofInt 32 (b.toNat : Int)).toNat : Int) = ((a &&& b).toNat : Int) := by
      rw [wrap_u32, ofInt_nat, ofInt_nat, BitVec.toNat_and, BitVec.toNat_ofNat, BitVec.toNat_ofNat, UInt32.toNat_and, Nat.mod_eq_of_lt a.toNat_lt, Nat.mod_eq_of_lt b.toNat_lt]
      have := (a &&& b).toNat_lt
      rw [UInt32.toNat_and] at this
      omega
    simp only [execOp, h, hx, hy, Sem.run_bind, eqGuard_int]
    exact congrArg (fun z => Result.ok (Next.value (Value.int .u32 z)) w) e
theorem yq_or_u32 {t t' : TypeId} {x y : Operand} {a b : UInt32} (h : o.op = .binOp .or t x y t') (hx : ev n ρ x = U32 a) (hy : ev n ρ y = U32 b) : Yq P n w0 E o ρ L (U32 (a ||| b)) :=
  yq_val fun w _ => by
    have e : IntKind.u32.wrap ((BitVec.ofInt 32 (a.toNat : Int) ||| BitVec.ofInt 32 (b.toNat : Int)).toNat : Int) = ((a ||| b).toNat : Int) := by
      rw [wrap_u32, ofInt_nat, ofInt_nat, BitVec.toNat_or, BitVec.toNat_ofNat, BitVec.toNat_ofNat, UInt32.toNat_or, Nat.mod_eq_of_lt a.toNat_lt, Nat.mod_eq_of_lt b.toNat_lt]
      have := (a ||| b).toNat_lt
      rw [UInt32.toNat_or] at this
      omega
    simp only [execOp, h, hx, hy, Sem.run_bind, eqGuard_int]
    exact congrArg (fun z => Result.ok (Next.value (Value.int .u32 z)) w) e
/-- '^x'. -/
theorem yq_not_u32 {t : TypeId} {x : Operand} {a : UInt32} (h : o.op = .unOp .xor t x) (hx : ev n ρ x = U32 a) : Yq P n w0 E o ρ L (U32 (a ^^^ 4294967295)) :=
  yq_val fun w _ => by
    have e : IntKind.u32.wrap ((BitVec.ofInt 32 (4294967295 : Int) ^^^ BitVec.ofInt 32 (a.toNat : Int)).toNat : Int) = ((a ^^^ 4294967295).toNat : Int) := by
      rw [wrap_u32, ofInt_nat, BitVec.toNat_xor, BitVec.toNat_ofNat, UInt32.toNat_xor, Nat.mod_eq_of_lt a.toNat_lt, Nat.xor_comm]
      have := (a ^^^ 4294967295).toNat_lt
      rw [UInt32.toNat_xor] at this
      have e2 : (BitVec.ofInt 32 (4294967295 : Int)).toNat = (4294967295 : UInt32).toNat := by decide
      rw [e2]
      omega
    have e3 : (if IntKind.u32.signed = true then (-1 : Int) else IntKind.u32.max) = 4294967295 := by decide
    simp only [execOp, h, hx, Sem.run_bind, Op.unary, e3]
    exact congrArg (fun z => Result.ok (Next.value (Value.int .u32 z)) w) e
theorem yq_shl_u32 {t t' : TypeId} {x y : Operand} {a : UInt32} {k : IntKind} {s : Nat} (h : o.op = .binOp .shl t x y t') (hx : ev n ρ x = U32 a) (hy : ev n ρ y = .int k (s : Int)) (hs : s < 32) : Yq P n w0 E o ρ L (U32 (a <<< UInt32.ofNat s)) :=
  yq_val fun w _ => by
    have e : IntKind.u32.wrap ((a.toNat : Int) * 2 ^ s) = ((a <<< UInt32.ofNat s).toNat : Int) := by
      rw [wrap_u32, UInt32.toNat_shiftLeft, UInt32.toNat_ofNat', Nat.shiftLeft_eq]
      rw [Nat.mod_eq_of_lt (show s < 2 ^ 32 by omega), Nat.mod_eq_of_lt hs, Int.natCast_emod, Int.natCast_mul, Int.natCast_pow]
      rfl
    have hm : min s 32 = s := by omega
    have hneg : ¬ ((s : Int) < 0) := by omega
    simp only [execOp, h, hx, hy, Sem.run_bind, eqGuard_int, binOp, Op.shift, hneg, if_false, Int.toNat_natCast, IntKind.bits, hm]
    exact congrArg (fun z => Result.ok (Next.value (Value.int .u32 z)) w) e
theorem yq_shr_u32 {t t' : TypeId} {x y : Operand} {a : UInt32} {k : IntKind} {s : Nat} (h : o.op = .binOp .shr t x y t') (hx : ev n ρ x = U32 a) (hy : ev n ρ y = .int k (s : Int)) (hs : s < 32) : Yq P n w0 E o ρ L (U32 (a >>> UInt32.ofNat s)) :=
  yq_val fun w _ => by
    have e : (a.toNat : Int).fdiv (2 ^ s) = ((a >>> UInt32.ofNat s).toNat : Int) := by
      rw [UInt32.toNat_shiftRight, UInt32.toNat_ofNat', Nat.shiftRight_eq_div_pow]
      rw [Nat.mod_eq_of_lt (show s < 2 ^ 32 by omega), Nat.mod_eq_of_lt hs, Int.fdiv_eq_ediv_of_nonneg _ (by exact_mod_cast Nat.zero_le _)]
      push_cast
      rfl
    have hm : min s 32 = s := by omega
    have hneg : ¬ ((s : Int) < 0) := by omega
    simp only [execOp, h, hx, hy, Sem.run_bind, eqGuard_int, binOp, Op.shift, hneg, if_false, Int.toNat_natCast, IntKind.bits, hm]
    exact congrArg (fun z => Result.ok (Next.value (Value.int .u32 z)) w) e

/-! ### results told by an equation -/
theorem yq_add_e {k : IntKind} {t t' : TypeId} {x y : Operand} {a b r : Int} (h : o.op = .binOp .add t x y t') (hx : ev n ρ x = .int k a) (hy : ev n ρ y = .int k b) (hr : k.wrap (a + b) = r) : Yq P n w0 E o ρ L (.int k r) :=
  yq_val fun w _ => by simp [execOp, h, hx, hy, eqGuard_int, binOp, Op.intArith, hr]
theorem yq_sub_e {k : IntKind} {t t' : TypeId} {x y : Operand} {a b r : Int} (h : o.op = .binOp .sub t x y t') (hx : ev n ρ x = .int k a) (hy : ev n ρ y = .int k b) (hr : k.wrap (a - b) = r) : Yq P n w0 E o ρ L (.int k r) :=
  yq_val fun w _ => by simp [execOp, h, hx, hy, eqGuard_int, binOp, Op.intArith, hr]
theorem yq_mul_e {k : IntKind} {t t' : TypeId} {x y : Operand} {a b r : Int} (h : o.op = .binOp .mul t x y t') (hx : ev n ρ x = .int k a) (hy : ev n ρ y = .int k b) (hr : k.wrap (a * b) = r) : Yq P n w0 E o ρ L (.int k r) :=
  yq_val fun w _ => by simp [execOp, h, hx, hy, eqGuard_int, binOp, Op.intArith, hr]
theorem yq_quo_e {k : IntKind} {t t' : TypeId} {x y : Operand} {a b r : Int} (h : o.op = .binOp .quo t x y t') (hx : ev n ρ x = .int k a) (hy : ev n ρ y = .int k b) (hb : b ≠ 0) (hr : k.wrap (a.tdiv b) = r) : Yq P n w0 E o ρ L (.int k r) :=
  yq_val fun w _ => by simp [execOp, h, hx, hy, eqGuard_int, binOp, Op.intDiv, hb, hr]
theorem yq_rem_e {k : IntKind} {t t' : TypeId} {x y : Operand} {a b r : Int} (h : o.op = .binOp .rem t x y t') (hx : ev n ρ x = .int k a) (hy : ev n ρ y = .int k b) (hb : b ≠ 0) (hr : a.tmod b = r) : Yq P n w0 E o ρ L (.int k r) :=
  yq_val fun w _ => by simp [execOp, h, hx, hy, eqGuard_int, binOp, Op.intDiv, hb, hr]
/-- The three of '&', '|', '^': what their bits come to. -/
def bitsOf (op : BinOp) (k : IntKind) (x y : Int) : Int :=
  match op with
  | .and => k.wrap (BitVec.ofInt k.bits x &&& BitVec.ofInt k.bits y).toNat
  | .or => k.wrap (BitVec.ofInt k.bits x ||| BitVec.ofInt k.bits y).toNat
  | .xor => k.wrap (BitVec.ofInt k.bits x ^^^ BitVec.ofInt k.bits y).toNat
  | _ => 0
theorem yq_and_e {k : IntKind} {t t' : TypeId} {x y : Operand} {a b r : Int} (h : o.op = .binOp .and t x y t') (hx : ev n ρ x = .int k a) (hy : ev n ρ y = .int k b) (hr : bitsOf .and k a b = r) : Yq P n w0 E o ρ L (.int k r) :=
  yq_val fun w _ => by simp [execOp, h, hx, hy, eqGuard_int, binOp, Op.intBits, bitsOf, ← hr]
theorem yq_or_e {k : IntKind} {t t' : TypeId} {x y : Operand} {a b r : Int} (h : o.op = .binOp .or t x y t') (hx : ev n ρ x = .int k a) (hy : ev n ρ y = .int k b) (hr : bitsOf .or k a b = r) : Yq P n w0 E o ρ L (.int k r) :=
  yq_val fun w _ => by simp [execOp, h, hx, hy, eqGuard_int, binOp, Op.intBits, bitsOf, ← hr]
theorem yq_shl_e {k k' : IntKind} {t t' : TypeId} {x y : Operand} {a b r : Int} (h : o.op = .binOp .shl t x y t') (hx : ev n ρ x = .int k a) (hy : ev n ρ y = .int k' b) (hb : 0 ≤ b) (hr : k.wrap (a * 2 ^ min b.toNat k.bits) = r) : Yq P n w0 E o ρ L (.int k r) :=
  yq_val fun w _ => by
    have hneg : ¬ b < 0 := by omega
    simp [execOp, h, hx, hy, eqGuard_int, binOp, Op.shift, hneg, hr]
theorem yq_shr_e {k k' : IntKind} {t t' : TypeId} {x y : Operand} {a b r : Int} (h : o.op = .binOp .shr t x y t') (hx : ev n ρ x = .int k a) (hy : ev n ρ y = .int k' b) (hb : 0 ≤ b) (hr : a.fdiv (2 ^ min b.toNat k.bits) = r) : Yq P n w0 E o ρ L (.int k r) :=
  yq_val fun w _ => by
    have hneg : ¬ b < 0 := by omega
    simp only [execOp, h, hx, hy, Sem.run_bind, eqGuard_int, binOp, Op.shift, hneg, if_false]
    exact congrArg (fun z => Result.ok (Next.value (Value.int k z)) w) hr
theorem yq_neg {t : TypeId} {x : Operand} {a : Int} (h : o.op = .unOp .neg t x) (hx : ev n ρ x = .int .i64 a) (hr : -9223372036854775807 ≤ a ∧ a ≤ 9223372036854775807) : Yq P n w0 E o ρ L (.int .i64 (-a)) :=
  yq_val fun w _ => by simp [execOp, h, hx, Op.unary, Op.intArith, wrap64_in (m := -a) ⟨by omega, by omega⟩]
theorem yq_not {t : TypeId} {x : Operand} {b : Bool} (h : o.op = .unOp .not t x) (hx : ev n ρ x = .bool b) : Yq P n w0 E o ρ L (.bool (!b)) :=
  yq_val fun w _ => by simp [execOp, h, hx, Op.unary]
theorem run_und {t : TypeId} {d : TypeDesc} (h : P.underlying t = some d) (w : World) : (underlying t).run P w = .ok d w := by
  simp [underlying, program, Sem.run, h]
theorem yq_conv_int {k k' : IntKind} {s t : TypeId} {d : TypeDesc} {x : Operand} {a r : Int} (h : o.op = .convert s t x) (hs : P.underlying s = some d) (ht : P.underlying t = some (.int k)) (hx : ev n ρ x = .int k' a) (hr : k.wrap a = r) : Yq P n w0 E o ρ L (.int k r) :=
  yq_val fun w _ => by simp [execOp, h, hx, convert, run_und hs, run_und ht, Conv.intToInt, hr]

end
end Go.WL

namespace Go.WL
/-! ### Slots that are known -/
def updL (ρ : Nat → Value) : List (Nat × Value) → (Nat → Value)
  | [] => ρ
  | (t, v) :: r => upd (updL ρ r) t v
def AllAt (ρ : Nat → Value) : List (Nat × Value) → Prop
  | [] => True
  | (t, v) :: r => ρ t = v ∧ AllAt ρ r
/-- The slots of l hold what l says. -/
def Has (ρ : Nat → Value) (l : List (Nat × Value)) : Prop := ∃ ρ', ρ = updL ρ' l
theorem Has.mk {ρ : Nat → Value} {l : List (Nat × Value)} (h : AllAt ρ l) : Has ρ l := by
  refine ⟨ρ, ?_⟩
  induction l with
  | nil => rfl
  | cons p r ih =>
    obtain ⟨h1, h2⟩ := h
    rw [updL, ← ih h2, upd_self h1]

/-! ### Calls -/
section
variable {P : Program} {n : Nat} {w0 : World} {E : List Nat} {o : Oper} {ρ : Nat → Value} {L : List Ent}

inductive Args (n : Nat) (ρ : Nat → Value) : List Operand → List Value → Prop where
  | nil : Args n ρ [] []
  | cons {x : Operand} {v : Value} {xs : List Operand} {vs : List Value} : ev n ρ x = v → Args n ρ xs vs → Args n ρ (x :: xs) (v :: vs)
theorem Args.eq {xs : List Operand} {vs : List Value} (h : Args n ρ xs vs) : xs.map (ev n ρ) = vs := by
  induction h with
  | nil => rfl
  | cons h _ ih => simp [h, ih]

theorem run_callFunc {f : FuncId} {fn : Func} (hf : P.funcs[f]? = some fn) (hn : (fn.name == "runtime.NumGoroutine") = false) (hb : fn.body.isNone = false) (args : Array Value) (w : World) :
    (callFunc f args).run P w = .ok (.enter f args) w := by
  have hn' : ¬ fn.name = "runtime.NumGoroutine" := by simpa using hn
  have hb' : ¬ fn.body = none := by cases hq : fn.body <;> simp_all
  unfold callFunc
  simp [program, Sem.run, hf, hn', hb']

theorem run_call {c : Operand} {xs : List Operand} {ats : Array TypeId} {f : FuncId} {cap : List Value} {vs : List Value} (h : o.op = .call ⟨.value c, xs.toArray, ats⟩)
    (hc : ev n ρ c = .func (.func f) #[] cap.toArray) (hx : Args n ρ xs vs) (he : ∀ args w, (callFunc f args).run P w = .ok (.enter f args) w) (w : World) :
    (execOp (ev n ρ) o).run P w = .ok (.enter f (vs ++ cap).toArray) w := by
  have h1 : xs.toArray.map (ev n ρ) = vs.toArray := by rw [List.map_toArray, hx.eq]
  simp [execOp, h, resolve, hc, h1, Deferred.ofValue, invoke, he]

theorem yq_call {c : Operand} {xs : List Operand} {ats : Array TypeId} {f : FuncId} {vs : List Value} {v : Value} (h : o.op = .call ⟨.value c, xs.toArray, ats⟩)
    (hc : ev n ρ c = .func (.func f) #[] #[]) (hx : Args n ρ xs vs) (he : ∀ args w, (callFunc f args).run P w = .ok (.enter f args) w)
    (hk : ∀ w, Cl w0 E L w → Calls P f vs.toArray w fun e w' => e = .returned v ∧ Cl w [] [] w') : Yq P n w0 E o ρ L v := by
  intro w hw
  have := run_call (P := P) (cap := []) h hc hx he w
  rw [List.append_nil] at this
  rw [this]
  exact ⟨rfl, (hk w hw).mono fun e w' ⟨h1, h2⟩ => ⟨h1, by simpa using hw.call h2⟩⟩

/-- A closure. -/
theorem yq_callc {c : Operand} {xs : List Operand} {ats : Array TypeId} {f : FuncId} {cap vs : List Value} {v : Value} (h : o.op = .call ⟨.value c, xs.toArray, ats⟩)
    (hc : ev n ρ c = .func (.func f) #[] cap.toArray) (hx : Args n ρ xs vs) (he : ∀ args w, (callFunc f args).run P w = .ok (.enter f args) w)
    (hk : ∀ w, Cl w0 E L w → Calls P f (vs ++ cap).toArray w fun e w' => e = .returned v ∧ Cl w [] [] w') : Yq P n w0 E o ρ L v := by
  intro w hw
  rw [run_call (P := P) h hc hx he w]
  exact ⟨rfl, (hk w hw).mono fun e w' ⟨h1, h2⟩ => ⟨h1, by simpa using hw.call h2⟩⟩

/-- A call that hands out new memory: K tells of it. -/
theorem OW.calln {ops : Array Oper} {rest : List Oper} {Q : Post} {c : Operand} {xs : List Operand} {ats : Array TypeId} {f : FuncId} {vs : List Value} {d : Tmp} {K : Value → List Ent → Prop}
    (hw : Region.wanted o (yl n ops ρ) = true) (hd : o.dst = some d) (h : o.op = .call ⟨.value c, xs.toArray, ats⟩)
    (hc : ev n ρ c = .func (.func f) #[] #[]) (hx : Args n ρ xs vs) (he : ∀ args w, (callFunc f args).run P w = .ok (.enter f args) w)
    (hk : ∀ w, Cl w0 E L w → Calls P f vs.toArray w fun e w' => ∃ v L1, e = .returned v ∧ Cl w [] L1 w' ∧ K v L1)
    (hn : ∀ v L1, K v L1 → OW P n w0 E ops rest Q (upd ρ d v) (L1 ++ L)) : OW P n w0 E ops (o :: rest) Q ρ L := by
  have hr : ∀ w, (execOp (ev n ρ) o).run P w = .ok (.enter f vs.toArray) w := fun w => by
    have := run_call (P := P) (cap := []) h hc hx he w
    rwa [List.append_nil] at this
  exact OW.call hw hd hr fun w hw => (hk w hw).mono fun e w' ⟨v, L1, h1, h2, h3⟩ => ⟨v, L1 ++ L, h1, hw.call h2, hn v L1 h3⟩
end
end Go.WL

namespace Go.WL
theorem then_exit {N : (Nat → Value) → List Ent → Prop} {id : Nat} {Q : Post} {ρ : Nat → Value} {L : List Ent} (h : Q (.exit id) ρ L) : thenQ N Q (.exit id) ρ L := h
theorem blockQ_miss {id id' : Nat} {Q : Post} {ρ : Nat → Value} {L : List Ent} (hne : Nat.beq id' id = false) (h : Q (.exit id') ρ L) : blockQ id Q (.exit id') ρ L := by
  have : ¬ id' = id := fun e => by subst e; simp at hne
  simp only [blockQ, this, if_false]; exact h
theorem blockQ_hit {id : Nat} {Q : Post} {ρ : Nat → Value} {L : List Ent} (h : Q .normal ρ L) : blockQ id Q (.exit id) ρ L := by
  simp only [blockQ, if_true]; exact h
end Go.WL

namespace Go.WL

/-- What is known of a type: how many cells, whether it is a struct or an array, its zero's cells, its bytes. -/
def tinfo (P : Program) (T : TypeId) : Option (Nat × Bool × Nat) :=
  match P.info? T, P.underlying T with
  | some i, some d => some (i.size, (match d with | .struct _ | .array _ _ => true | _ => false), i.bytes)
  | _, _ => none
def tzero (P : Program) (T : TypeId) : Option (List Value) := (P.info? T).bind fun i => i.zero.map fun z => z.cells.toList
def tslice (P : Program) (T : TypeId) : Option TypeId := match P.underlying T with | some (.slice e) => some e | _ => none
def tarr (P : Program) (T : TypeId) : Option (Nat × TypeId) := match P.underlying T with | some (.array k e) => some (k, e) | _ => none
def tfield (P : Program) (S : TypeId) (f : Nat) : Option (Nat × TypeId) :=
  match P.underlying S with
  | some (.struct fs) => (fs[f]?).map fun fd => (fd.offset, fd.type)
  | _ => none
def tstr (P : Program) (T : TypeId) : Bool := match P.underlying T with | some .string => true | _ => false

section
variable {P : Program} {n : Nat} {w0 : World} {E : List Nat} {o : Oper} {ρ : Nat → Value} {L : List Ent}

theorem run_size {T : TypeId} {s b : Nat} {g : Bool} (h : tinfo P T = some (s, g, b)) (w : World) : (sizeOf T).run P w = .ok s w := by
  unfold tinfo at h
  cases hi : P.info? T with
  | none => simp [hi] at h
  | some i =>
    cases hu : P.underlying T with
    | none => simp [hi, hu] at h
    | some d => simp [hi, hu] at h; simp [sizeOf, typeInfo, program, Sem.run, hi, h.1]
theorem run_isAgg {T : TypeId} {s b : Nat} {g : Bool} (h : tinfo P T = some (s, g, b)) (w : World) : (isAgg T).run P w = .ok g w := by
  unfold tinfo at h
  cases hi : P.info? T with
  | none => simp [hi] at h
  | some i =>
    cases hu : P.underlying T with
    | none => simp [hi, hu] at h
    | some d =>
      simp [hi, hu] at h
      unfold isAgg
      rw [Sem.run_bind, run_und hu]
      cases d <;> simp_all
theorem run_typeInfo {T : TypeId} {s b : Nat} {g : Bool} (h : tinfo P T = some (s, g, b)) : ∃ i, P.info? T = some i ∧ i.size = s ∧ i.bytes = b := by
  unfold tinfo at h
  cases hi : P.info? T with
  | none => simp [hi] at h
  | some i =>
    cases hu : P.underlying T with
    | none => simp [hi, hu] at h
    | some d => simp [hi, hu] at h; exact ⟨i, rfl, h.1, h.2.2⟩
theorem run_zero {T : TypeId} {zs : List Value} (h : tzero P T = some zs) (w : World) : ∃ z : Value, (zeroValue T).run P w = .ok z w ∧ z.cells = zs.toArray := by
  unfold tzero at h
  cases hi : P.info? T with
  | none => simp [hi] at h
  | some i =>
    cases hz : i.zero with
    | none => simp [hi, hz] at h
    | some z =>
      simp [hi, hz] at h
      exact ⟨z, by simp [zeroValue, typeInfo, program, Sem.run, hi, hz], by rw [← h]⟩
theorem und_slice {T e : TypeId} (h : tslice P T = some e) : P.underlying T = some (.slice e) := by
  unfold tslice at h
  cases hu : P.underlying T with
  | none => simp [hu] at h
  | some d => cases d <;> simp_all
theorem und_arr {T e : TypeId} {k : Nat} (h : tarr P T = some (k, e)) : P.underlying T = some (.array k e) := by
  unfold tarr at h
  cases hu : P.underlying T with
  | none => simp [hu] at h
  | some d => cases d <;> simp_all
theorem und_str {T : TypeId} (h : tstr P T = true) : P.underlying T = some .string := by
  unfold tstr at h
  cases hu : P.underlying T with
  | none => simp [hu] at h
  | some d => cases d <;> simp_all
theorem und_struct {S T : TypeId} {f k : Nat} (h : tfield P S f = some (k, T)) : ∃ fs fd, P.underlying S = some (.struct fs) ∧ fs[f]? = some fd ∧ fd.offset = k ∧ fd.type = T := by
  unfold tfield at h
  cases hu : P.underlying S with
  | none => simp [hu] at h
  | some d =>
    cases d <;> simp [hu] at h
    case struct fs =>
      obtain ⟨fd, h1, h2, h3⟩ := h
      exact ⟨fs, fd, rfl, h1, h2, h3⟩

/-! ### new blocks -/
theorem OW.new {ops : Array Oper} {rest : List Oper} {Q : Post} {d : Tmp} {cs : List Value} {T : TypeId} (hw : Region.wanted o (yl n ops ρ) = true) (hd : o.dst = some d)
    (hr : ∀ w, (execOp (ev n ρ) o).run P w = .ok (.value (.pointer (some ⟨w.heap.size, 0, none⟩))) { w with heap := w.heap.push (.cells cs.toArray T) })
    (h : ∀ b, OW P n w0 E ops rest Q (upd ρ d (.pointer (some ⟨b, 0, none⟩))) (.blk b cs T (0, 0) :: L)) : OW P n w0 E ops (o :: rest) Q ρ L := by
  refine OW.m hw fun w hc => ⟨_, _, _, .inl (hr w), by simpa using hc.alloc cs.toArray T, ?_⟩
  rw [hd]
  exact h _

theorem OW.alloc {ops : Array Oper} {rest : List Oper} {Q : Post} {d : Tmp} {zs : List Value} {T : TypeId} (hw : Region.wanted o (yl n ops ρ) = true) (hd : o.dst = some d) (h : o.op = .alloc T) (hz : tzero P T = some zs)
    (hn : ∀ b, OW P n w0 E ops rest Q (upd ρ d (.pointer (some ⟨b, 0, none⟩))) (.blk b zs T (0, 0) :: L)) : OW P n w0 E ops (o :: rest) Q ρ L := by
  refine OW.new hw hd (fun w => ?_) hn
  obtain ⟨z, hz1, hz2⟩ := run_zero hz w
  simp [execOp, h, Instr.alloc, hz1, newVar, newRow, newObj, Sem.run, hz2]
theorem OW.box {ops : Array Oper} {rest : List Oper} {Q : Post} {d : Tmp} {x : Operand} {v : Value} {cs : List Value} {T : TypeId} (hw : Region.wanted o (yl n ops ρ) = true) (hd : o.dst = some d) (h : o.op = .box T x) (hx : ev n ρ x = v) (hv : v.cells = cs.toArray)
    (hn : ∀ b, OW P n w0 E ops rest Q (upd ρ d (.pointer (some ⟨b, 0, none⟩))) (.blk b cs T (0, 0) :: L)) : OW P n w0 E ops (o :: rest) Q ρ L := by
  refine OW.new hw hd (fun w => ?_) hn
  simp [execOp, h, Instr.box, newVar, newRow, newObj, Sem.run, hx, hv]

/-- The value of cells: one, or an aggregate. -/
theorem cells_agg (cs : List Value) : (Value.agg cs.toArray).cells = cs.toArray := rfl
theorem cells_one {v : Value} (h : v.oneCell' = true) : v.cells = [v].toArray := by cases v <;> simp_all [Value.cells, Value.oneCell']

/-! ### stores -/
def spl (cs : List Value) (off : Nat) (vs : List Value) : List Value := cs.take off ++ vs ++ cs.drop (off + vs.length)
theorem spl_length {cs vs : List Value} {off : Nat} (h : off + vs.length ≤ cs.length) : (spl cs off vs).length = cs.length := by simp [spl]; omega

theorem Cl.setRow {w : World} {L' : List Ent} {b : Nat} {cs cs' : List Value} {T : TypeId} (hc : Cl w0 E L w) (hp : Put (.blk b cs T (0, 0)) (.blk b cs' T (0, 0)) L L') : Cl w0 E L' (w.setRow b cs'.toArray) := by
  have hb := hc.own _ hp.mem
  refine hc.put hp rfl rfl rfl rfl rfl (by simp) (fun k hk => setRow_other w b k _ hk) ?_
  exact setRow_heap w b _ _ T _ hb

theorem OW.store {ops : Array Oper} {rest : List Oper} {Q : Post} {a x : Operand} {v : Value} {b off : Nat} {cs vs : List Value} {T Tb : TypeId} {L' : List Ent} {g : Bool} {by_ : Nat}
    (hw : Region.wanted o (yl n ops ρ) = true) (hd : o.dst = none) (h : o.op = .store T a x) (ha : ev n ρ a = .pointer (some ⟨b, off, none⟩)) (hx : ev n ρ x = v)
    (ti : tinfo P T = some (vs.length, g, by_)) (hv : v.cells = vs.toArray) (h1 : ∀ u ∈ vs, u.oneCell' = true)
    (hp : Put (.blk b cs Tb (0, 0)) (.blk b (spl cs off vs) Tb (0, 0)) L L') (hf : off + vs.length ≤ cs.length)
    (hn : OW P n w0 E ops rest Q ρ L') : OW P n w0 E ops (o :: rest) Q ρ L := by
  refine OW.m hw fun w hc => ⟨undef, L', w.setRow b (spl cs off vs).toArray, .inr ⟨?_, rfl⟩, hc.setRow hp, by rw [hd]; exact hn⟩
  have hb := hc.own _ hp.mem
  have hst := run_storeCells_at P b off Tb vs 0 cs.toArray w hb (by simpa using hf) h1
  have e : (execOp (ev n ρ) o).run P w = ((storeVar T ⟨b, off, none⟩ v).run P w).andThen fun _ w' => .ok .skip w' := by
    simp [execOp, h, ha, hx, Instr.storeAt, Instr.sureAddr]
  rw [e]
  simp only [storeVar, Sem.run_bind, run_size ti, Result.andThen_ok, hv, List.size_toArray, ne_eq, not_true, if_false]
  simp only [Nat.add_zero, List.toList_toArray] at hst
  simp only [Sem.run_pure, Result.andThen_ok, hst]
  rfl

/-! ### loads -/
theorem add_mk (b off k : Nat) : (⟨b, off, none⟩ : Addr).add k = ⟨b, off + k, none⟩ := by unfold Addr.add; split <;> simp_all

theorem run_load_one {T : TypeId} {a : Addr} {v : Value} {s b : Nat} (ti : tinfo P T = some (s, false, b)) {w : World} (hc : w.cell? a = some v) : (loadVar T a).run P w = .ok v w := by
  simp [loadVar, run_isAgg ti, load, Sem.run, hc]
theorem run_load_agg {T : TypeId} {b off : Nat} {vs : List Value} {y : Nat} (ti : tinfo P T = some (vs.length, true, y)) {w : World} (hc : ∀ j u, vs[j]? = some u → w.cell? ⟨b, off + j, none⟩ = some u) :
    (loadVar T ⟨b, off, none⟩).run P w = .ok (.agg vs.toArray) w := by
  have hl := run_loadCells_list (P := P) w ⟨b, off, none⟩ vs (fun j u hu => by rw [add_mk]; exact hc j u hu)
  simp [loadVar, run_isAgg ti, run_size ti, hl]

theorem yq_load_c {T : TypeId} {a : Operand} {ad : Addr} {v : Value} (h : o.op = .load T a) (ha : ev n ρ a = .pointer (some ad)) (hl : ∀ w, Cl w0 E L w → (loadVar T ad).run P w = .ok v w) : Yq P n w0 E o ρ L v :=
  yq_val fun w hc => by simp [execOp, h, ha, Instr.loadAt, Instr.sureAddr, hl w hc]

theorem Cl.cellAt {w : World} {b off : Nat} {cs : List Value} {T : TypeId} {fz : Nat × Nat} (hc : Cl w0 E L w) (hm : Ent.blk b cs T fz ∈ L) : w.cell? ⟨b, off, none⟩ = cs[off]? := by
  rw [cell_of_row w b off cs.toArray T fz (hc.heap hm)]; simp

/-- One cell of a block of ours. -/
theorem yq_load1 {T Tb : TypeId} {fz : Nat × Nat} {a : Operand} {b off : Nat} {cs : List Value} {v : Value} {s y : Nat} (h : o.op = .load T a) (ha : ev n ρ a = .pointer (some ⟨b, off, none⟩)) (ti : tinfo P T = some (s, false, y))
    (hm : Ent.blk b cs Tb fz ∈ L) (hv : cs[off]? = some v) : Yq P n w0 E o ρ L v :=
  yq_load_c h ha fun w hc => run_load_one ti (by rw [hc.cellAt hm]; exact hv)
/-- Some cells of a block of ours. -/
theorem yq_loadA {T Tb : TypeId} {fz : Nat × Nat} {a : Operand} {b off : Nat} {cs vs : List Value} {y : Nat} (h : o.op = .load T a) (ha : ev n ρ a = .pointer (some ⟨b, off, none⟩)) (ti : tinfo P T = some (vs.length, true, y))
    (hm : Ent.blk b cs Tb fz ∈ L) (hv : ∀ j u, vs[j]? = some u → cs[off + j]? = some u) : Yq P n w0 E o ρ L (.agg vs.toArray) :=
  yq_load_c h ha fun w hc => run_load_agg ti fun j u hu => by rw [hc.cellAt hm]; exact hv j u hu
/-- A whole block of ours. -/
theorem yq_loadW {T Tb : TypeId} {fz : Nat × Nat} {a : Operand} {b : Nat} {cs : List Value} {y : Nat} (h : o.op = .load T a) (ha : ev n ρ a = .pointer (some ⟨b, 0, none⟩)) (ti : tinfo P T = some (cs.length, true, y))
    (hm : Ent.blk b cs Tb fz ∈ L) : Yq P n w0 E o ρ L (.agg cs.toArray) :=
  yq_loadA h ha ti hm fun j u hu => by simpa using hu

/-! ### addresses -/
theorem yq_fieldAddr {S T : TypeId} {x : Operand} {f k b off s y : Nat} {g : Bool} (h : o.op = .fieldAddr S x f) (hx : ev n ρ x = .pointer (some ⟨b, off, none⟩)) (hf : tfield P S f = some (k, T)) (ti : tinfo P T = some (s + 1, g, y)) :
    Yq P n w0 E o ρ L (.pointer (some ⟨b, off + k, none⟩)) :=
  yq_val fun w _ => by
    obtain ⟨fs, fd, h1, h2, rfl, rfl⟩ := und_struct hf
    simp [execOp, h, hx, Instr.fieldAt, run_und h1, h2, Instr.sureAddr, fieldPlace, run_size ti, add_mk]
theorem yq_index_arr {T e : TypeId} {x i : Operand} {k : IntKind} {b off len s y : Nat} {g : Bool} {j : Int} (h : o.op = .indexAddr T x i) (hx : ev n ρ x = .pointer (some ⟨b, off, none⟩)) (hi : ev n ρ i = .int k j) (ht : tarr P T = some (len, e)) (ti : tinfo P e = some (s, g, y))
    (h0 : 0 ≤ j) (h1 : j < len) : Yq P n w0 E o ρ L (.pointer (some ⟨b, off + j.toNat * s, none⟩)) :=
  yq_val fun w _ => by
    simp [execOp, h, hx, hi, Instr.indexAt, asIntOf, run_und (und_arr ht), Instr.sureAddr, run_size ti, add_mk, h0, h1]
theorem yq_index_slice {T e : TypeId} {x i : Operand} {k : IntKind} {b off len cap s y : Nat} {g : Bool} {j : Int} (h : o.op = .indexAddr T x i) (hx : ev n ρ x = .slice (some ⟨b, off, none⟩) len cap) (hi : ev n ρ i = .int k j) (ht : tslice P T = some e) (ti : tinfo P e = some (s, g, y))
    (h0 : 0 ≤ j) (h1 : j < len) : Yq P n w0 E o ρ L (.pointer (some ⟨b, off + j.toNat * s, none⟩)) :=
  yq_val fun w _ => by
    simp [execOp, h, hx, hi, Instr.indexAt, asIntOf, run_und (und_slice ht), run_size ti, add_mk, h0, h1]

/-! ### parts of values -/
theorem yq_field1 {S T : TypeId} {x : Operand} {f k s y : Nat} {cs : List Value} {v : Value} (h : o.op = .field S x f) (hx : ev n ρ x = .agg cs.toArray) (hf : tfield P S f = some (k, T)) (ti : tinfo P T = some (s, false, y)) (hv : cs[k]? = some v) : Yq P n w0 E o ρ L v :=
  yq_val fun w _ => by
    obtain ⟨fs, fd, h1, h2, rfl, rfl⟩ := und_struct hf
    simp [execOp, h, hx, Instr.field, run_und h1, h2, part, run_isAgg ti, asAgg, hv]
theorem yq_fieldA {S T : TypeId} {x : Operand} {f k s y : Nat} {cs : List Value} (h : o.op = .field S x f) (hx : ev n ρ x = .agg cs.toArray) (hf : tfield P S f = some (k, T)) (ti : tinfo P T = some (s, true, y)) : Yq P n w0 E o ρ L (.agg ((cs.drop k).take s).toArray) :=
  yq_val fun w _ => by
    obtain ⟨fs, fd, h1, h2, rfl, rfl⟩ := und_struct hf
    simp [execOp, h, hx, Instr.field, run_und h1, h2, part, run_isAgg ti, run_size ti, asAgg, List.extract_eq_take_drop]
theorem yq_indexV1 {T e : TypeId} {x i : Operand} {k : IntKind} {len s y : Nat} {cs : List Value} {j : Int} {v : Value} (h : o.op = .index T x i) (hx : ev n ρ x = .agg cs.toArray) (hi : ev n ρ i = .int k j) (ht : tarr P T = some (len, e)) (ti : tinfo P e = some (1, false, y))
    (h0 : 0 ≤ j) (h1 : j < len) (hv : cs[j.toNat]? = some v) : Yq P n w0 E o ρ L v :=
  yq_val fun w _ => by
    simp [execOp, h, hx, hi, Instr.index, asIntOf, run_und (und_arr ht), part, run_isAgg ti, run_size ti, h0, h1, hv]
theorem yq_indexVA {T e : TypeId} {x i : Operand} {k : IntKind} {len s y : Nat} {cs : List Value} {j : Int} (h : o.op = .index T x i) (hx : ev n ρ x = .agg cs.toArray) (hi : ev n ρ i = .int k j) (ht : tarr P T = some (len, e)) (ti : tinfo P e = some (s, true, y))
    (h0 : 0 ≤ j) (h1 : j < len) : Yq P n w0 E o ρ L (.agg ((cs.drop (j.toNat * s)).take s).toArray) :=
  yq_val fun w _ => by
    simp [execOp, h, hx, hi, Instr.index, asIntOf, run_und (und_arr ht), part, run_isAgg ti, run_size ti, h0, h1, List.extract_eq_take_drop]
theorem yq_build {T : TypeId} {parts : List (Nat × Operand)} {pv : List (Nat × Value)} {cs : List Value} (h : o.op = .build T parts.toArray) (hp : parts.map (fun p => (p.1, ev n ρ p.2)) = pv) (hb : P.built T pv = some cs.toArray) : Yq P n w0 E o ρ L (.agg cs.toArray) :=
  yq_val fun w _ => by
    have e : (parts.toArray.map fun (i, x) => (i, ev n ρ x)) = pv.toArray := by rw [List.map_toArray, ← hp]
    have hr := run_build (P := P) w T pv.toArray cs.toArray (by simpa using hb)
    simp only [execOp, h, e]
    simp [hr]

/-! ### strings and lengths -/
theorem yq_len_str {T : TypeId} {ats : List TypeId} {x : Operand} {s : ByteArray} (h : o.op = .call ⟨.builtin .len, [x].toArray, (T :: ats).toArray⟩) (ht : tstr P T = true) (hx : ev n ρ x = .string s) : Yq P n w0 E o ρ L (.int .i64 (s.size : Int)) :=
  yq_val fun w _ => by simp [execOp, h, resolve, hx, invoke, builtin, Builtin.len_, run_und (und_str ht), goInt]
theorem yq_len_slice {T e : TypeId} {ats : List TypeId} {x : Operand} {a : Option Addr} {len cap : Nat} (h : o.op = .call ⟨.builtin .len, [x].toArray, (T :: ats).toArray⟩) (ht : tslice P T = some e) (hx : ev n ρ x = .slice a len cap) : Yq P n w0 E o ρ L (.int .i64 (len : Int)) :=
  yq_val fun w _ => by simp [execOp, h, resolve, hx, invoke, builtin, Builtin.len_, run_und (und_slice ht), goInt]
theorem yq_len_arr {T e : TypeId} {k : Nat} {ats : List TypeId} {x : Operand} (h : o.op = .call ⟨.builtin .len, [x].toArray, (T :: ats).toArray⟩) (ht : tarr P T = some (k, e)) : Yq P n w0 E o ρ L (.int .i64 (k : Int)) :=
  yq_val fun w _ => by simp [execOp, h, resolve, invoke, builtin, Builtin.len_, run_und (und_arr ht), goInt]
theorem yq_cap_slice {T e : TypeId} {ats : List TypeId} {x : Operand} {a : Option Addr} {len cap : Nat} (h : o.op = .call ⟨.builtin .cap, [x].toArray, (T :: ats).toArray⟩) (ht : tslice P T = some e) (hx : ev n ρ x = .slice a len cap) : Yq P n w0 E o ρ L (.int .i64 (cap : Int)) :=
  yq_val fun w _ => by simp [execOp, h, resolve, hx, invoke, builtin, Builtin.cap_, run_und (und_slice ht), goInt]
theorem yq_min {ats : Array TypeId} {x y : Operand} {k : IntKind} {a b r : Int} (h : o.op = .call ⟨.builtin .min, [x, y].toArray, ats⟩) (hx : ev n ρ x = .int k a) (hy : ev n ρ y = .int k b) (hr : (if b < a then b else a) = r) : Yq P n w0 E o ρ L (.int k r) :=
  yq_val fun w _ => by simp [execOp, h, resolve, hx, hy, invoke, builtin, Builtin.min_, Builtin.min2, hr]

theorem yq_add_str {t t' : TypeId} {x y : Operand} {a b : ByteArray} (h : o.op = .binOp .add t x y t') (hx : ev n ρ x = .string a) (hy : ev n ρ y = .string b) (hr : a.size + b.size ≤ 9223372036854775807) : Yq P n w0 E o ρ L (.string (a ++ b)) :=
  yq_val fun w _ => by simp [execOp, h, hx, hy, eqGuard_str, binOp, run_string_add_sum w a b hr]
theorem bytes_toList (a : ByteArray) : a.toList = a.data.toList := by
  exact ByteArray.toList_eq a
theorem str_beq (a b : ByteArray) : (a.toList == b.toList) = decide (a = b) := by
  by_cases e : a = b
  · subst e; simp
  · have : ¬ a.toList = b.toList := fun h => e (by
      rw [bytes_toList, bytes_toList] at h
      exact ByteArray.ext (Array.toList_inj.1 h))
    simp [e, this]
theorem yq_eql_str {t t' : TypeId} {x y : Operand} {a b : ByteArray} (h : o.op = .binOp .eql t x y t') (hx : ev n ρ x = .string a) (hy : ev n ρ y = .string b) : Yq P n w0 E o ρ L (.bool (decide (a = b))) :=
  yq_val fun w _ => by
    have e := str_beq a b
    simp [execOp, h, hx, hy, eqGuard_str, binOp, Op.stringOp, e]
theorem yq_neq_str {t t' : TypeId} {x y : Operand} {a b : ByteArray} (h : o.op = .binOp .neq t x y t') (hx : ev n ρ x = .string a) (hy : ev n ρ y = .string b) : Yq P n w0 E o ρ L (.bool (decide (a ≠ b))) :=
  yq_val fun w _ => by
    have e := str_beq a b
    simp [execOp, h, hx, hy, eqGuard_str, binOp, Op.stringOp, e]
theorem yq_index_str {T : TypeId} {x i : Operand} {k : IntKind} {s : ByteArray} {j : Int} {c : UInt8} (h : o.op = .index T x i) (hx : ev n ρ x = .string s) (hi : ev n ρ i = .int k j) (ht : tstr P T = true) (h0 : 0 ≤ j) (hv : s[j.toNat]? = some c) : Yq P n w0 E o ρ L (U8 c) :=
  yq_val fun w _ => by
    simp [execOp, h, hx, hi, Instr.index, asIntOf, run_und (und_str ht), h0, hv]

/-- A bound of a slice expression, or none. -/
def bnd (n : Nat) (ρ : Nat → Value) : Option Operand → Nat → Nat → Prop
  | none, d, r => r = d
  | some x, _, r => ∃ k j, ev n ρ x = .int k j ∧ 0 ≤ j ∧ j.toNat = r
theorem run_bound {x : Operand} {y r : Nat} {code : BoundsCode} {w : World} (h : ∃ k j, ev n ρ x = .int k j ∧ 0 ≤ j ∧ j.toNat = r) (hr : r ≤ y) : (Instr.sliceBound (ev n ρ x) y code).run P w = .ok r w := by
  obtain ⟨k, j, hx, h0, rfl⟩ := h
  have : 0 ≤ j ∧ j ≤ (y : Int) := ⟨h0, by omega⟩
  simp [Instr.sliceBound, hx, asIntOf, this]
theorem run_bounds {isS : Bool} {len cap : Nat} {lo hi : Option Operand} {l h : Nat} {w : World} (hl : bnd n ρ lo 0 l) (hh : bnd n ρ hi len h) (h1 : l ≤ h) (h2 : h ≤ cap) :
    (Instr.sliceBounds isS len cap (lo.map (ev n ρ)) (hi.map (ev n ρ)) none).run P w = .ok (l, h, cap) w := by
  unfold Instr.sliceBounds
  cases lo <;> cases hi <;> simp only [bnd] at hl hh
  · subst hl; subst hh; simp
  · subst hl; simp [run_bound hh h2]
  · subst hh; simp [run_bound hl h1]
  · simp [run_bound hh h2, run_bound hl h1]

theorem yq_slice_str {T : TypeId} {x : Operand} {lo hi : Option Operand} {s : ByteArray} {l h : Nat} (ho : o.op = .slice T x lo hi none) (hx : ev n ρ x = .string s) (ht : tstr P T = true) (hl : bnd n ρ lo 0 l) (hh : bnd n ρ hi s.size h) (h1 : l ≤ h) (h2 : h ≤ s.size) :
    Yq P n w0 E o ρ L (.string (s.extract l h)) :=
  yq_val fun w _ => by
    have := run_bounds (P := P) (isS := false) (len := s.size) (cap := s.size) (w := w) hl hh h1 h2
    simp [execOp, ho, hx, Instr.sliceAt, Instr.slice, run_und (und_str ht), this]
theorem yq_slice_slice {T e : TypeId} {x : Operand} {lo hi : Option Operand} {b off len cap l h s y : Nat} {g : Bool} (ho : o.op = .slice T x lo hi none) (hx : ev n ρ x = .slice (some ⟨b, off, none⟩) len cap) (ht : tslice P T = some e) (ti : tinfo P e = some (s, g, y)) (hl : bnd n ρ lo 0 l) (hh : bnd n ρ hi len h) (h1 : l ≤ h) (h2 : h ≤ cap) :
    Yq P n w0 E o ρ L (.slice (some ⟨b, if cap = l then off else off + l * s, none⟩) (h - l) (cap - l)) :=
  yq_val fun w _ => by
    have := run_bounds (P := P) (isS := true) (len := len) (cap := cap) (w := w) hl hh h1 h2
    by_cases e : cap = l
    · subst e; simp [execOp, ho, hx, Instr.sliceAt, Instr.slice, run_und (und_slice ht), this, run_size ti, add_mk]
    · simp [execOp, ho, hx, Instr.sliceAt, Instr.slice, run_und (und_slice ht), this, run_size ti, add_mk, e]
theorem yq_slice_arr {T e : TypeId} {x : Operand} {lo hi : Option Operand} {b off k l h s y : Nat} {g : Bool} (ho : o.op = .slice T x lo hi none) (hx : ev n ρ x = .pointer (some ⟨b, off, none⟩)) (ht : tarr P T = some (k, e)) (ti : tinfo P e = some (s, g, y)) (hl : bnd n ρ lo 0 l) (hh : bnd n ρ hi k h) (h1 : l ≤ h) (h2 : h ≤ k) :
    Yq P n w0 E o ρ L (.slice (some ⟨b, if k = l then off else off + l * s, none⟩) (h - l) (k - l)) :=
  yq_val fun w _ => by
    have := run_bounds (P := P) (isS := false) (len := k) (cap := k) (w := w) hl hh h1 h2
    by_cases e : k = l
    · subst e; simp [execOp, ho, hx, Instr.sliceAt, run_und (und_arr ht), this, Instr.sureAddr, run_size ti, add_mk]
    · simp [execOp, ho, hx, Instr.sliceAt, run_und (und_arr ht), this, Instr.sureAddr, run_size ti, add_mk, e]
end
end Go.WL

namespace Go.WL
open Go.Spec

/-- Bytes as cells. -/
def bc (l : Bytes) : List Value := l.map U8
def hc (h : Hash) : List Value := bc h.toList
def HV (h : Hash) : Value := .agg (hc h).toArray
def bs (l : Bytes) : ByteArray := ⟨l.toArray⟩
theorem bs_toList (l : Bytes) : (bs l).data.toList = l := rfl
theorem bs_size (l : Bytes) : (bs l).size = l.length := rfl
theorem bs_append (a b : Bytes) : bs a ++ bs b = bs (a ++ b) := by
  apply ByteArray.ext
  show (bs a ++ bs b).data = _
  rw [ByteArray.data_append]
  simp [bs]
theorem bs_of (s : ByteArray) : bs s.data.toList = s := by cases s; rfl
theorem bs_inj {a b : Bytes} : bs a = bs b ↔ a = b := ⟨fun h => by have := congrArg (fun s => s.data.toList) h; exact this, fun h => by rw [h]⟩
@[simp] theorem bc_length (l : Bytes) : (bc l).length = l.length := by simp [bc]
@[simp] theorem hc_length (h : Hash) : (hc h).length = 32 := by simp [hc]
theorem bc_one (l : Bytes) : ∀ u ∈ bc l, u.oneCell' = true := by
  intro u hu
  obtain ⟨x, _, rfl⟩ := List.mem_map.1 hu
  rfl
theorem hc_one (h : Hash) : ∀ u ∈ hc h, u.oneCell' = true := bc_one _
theorem HV_cells (h : Hash) : (HV h).cells = (hc h).toArray := rfl
end Go.WL

namespace Go.WL
section
variable {P : Program} {n : Nat} {w0 : World} {E : List Nat} {o : Oper} {ρ : Nat → Value} {L : List Ent}

theorem yq_add_u64 {t t' : TypeId} {x y : Operand} {a b : UInt64} (h : o.op = .binOp .add t x y t') (hx : ev n ρ x = U64 a) (hy : ev n ρ y = U64 b) : Yq P n w0 E o ρ L (U64 (a + b)) :=
  yq_add_e h hx hy (by rw [wrap_u64, UInt64.toNat_add]; omega)
theorem yq_sub_u64 {t t' : TypeId} {x y : Operand} {a b : UInt64} (h : o.op = .binOp .sub t x y t') (hx : ev n ρ x = U64 a) (hy : ev n ρ y = U64 b) : Yq P n w0 E o ρ L (U64 (a - b)) :=
  yq_sub_e h hx hy (by rw [wrap_u64, UInt64.toNat_sub]; have := a.toNat_lt; have := b.toNat_lt; omega)
theorem yq_mul_u64 {t t' : TypeId} {x y : Operand} {a b : UInt64} (h : o.op = .binOp .mul t x y t') (hx : ev n ρ x = U64 a) (hy : ev n ρ y = U64 b) : Yq P n w0 E o ρ L (U64 (a * b)) :=
  yq_mul_e h hx hy (by rw [wrap_u64, UInt64.toNat_mul, Int.natCast_emod, Int.natCast_mul]; rfl)
theorem yq_quo_u64 {t t' : TypeId} {x y : Operand} {a b : UInt64} (h : o.op = .binOp .quo t x y t') (hx : ev n ρ x = U64 a) (hy : ev n ρ y = U64 b) (hb : b.toNat ≠ 0) : Yq P n w0 E o ρ L (U64 (a / b)) :=
  yq_quo_e h hx hy (by omega) (by
    rw [Int.tdiv_eq_ediv_of_nonneg (by omega), wrap_u64, UInt64.toNat_div, ← Int.natCast_ediv]
    have h1 := Nat.div_le_self a.toNat b.toNat
    have h2 := a.toNat_lt
    generalize a.toNat / b.toNat = q at *
    omega)
theorem yq_rem_u64 {t t' : TypeId} {x y : Operand} {a b : UInt64} (h : o.op = .binOp .rem t x y t') (hx : ev n ρ x = U64 a) (hy : ev n ρ y = U64 b) (hb : b.toNat ≠ 0) : Yq P n w0 E o ρ L (U64 (a % b)) :=
  yq_rem_e h hx hy (by omega) (by rw [Int.tmod_eq_emod_of_nonneg (by omega), UInt64.toNat_mod, Int.natCast_emod])
theorem bits_xor_u64 (a b : UInt64) : IntKind.u64.wrap ((BitVec.ofInt 64 (a.toNat : Int) ^^^ BitVec.ofInt 64 (b.toNat : Int)).toNat : Int) = ((a ^^^ b).toNat : Int) := by
  rw [wrap_u64, ofInt_nat, ofInt_nat, BitVec.toNat_xor, BitVec.toNat_ofNat, BitVec.toNat_ofNat, UInt64.toNat_xor, Nat.mod_eq_of_lt a.toNat_lt, Nat.mod_eq_of_lt b.toNat_lt]
  have := (a ^^^ b).toNat_lt
  rw [UInt64.toNat_xor] at this
  omega
theorem yq_xor_u64 {t t' : TypeId} {x y : Operand} {a b : UInt64} (h : o.op = .binOp .xor t x y t') (hx : ev n ρ x = U64 a) (hy : ev n ρ y = U64 b) : Yq P n w0 E o ρ L (U64 (a ^^^ b)) :=
  yq_val fun w _ => by
    simp only [execOp, h, hx, hy, Sem.run_bind, eqGuard_int]
    exact congrArg (fun z => Result.ok (Next.value (Value.int .u64 z)) w) (bits_xor_u64 a b)
theorem bits_and_u64 (a b : UInt64) : IntKind.u64.wrap ((BitVec.ofInt 64 (a.toNat : Int) &&& BitVec.ofInt 64 (b.toNat : Int)).toNat : Int) = ((a &&& b).toNat : Int) := by
  rw [wrap_u64, ofInt_nat, ofInt_nat, BitVec.toNat_and, BitVec.toNat_ofNat, BitVec.toNat_ofNat, UInt64.toNat_and, Nat.mod_eq_of_lt a.toNat_lt, Nat.mod_eq_of_lt b.toNat_lt]
  have := (a &&& b).toNat_lt
  rw [UInt64.toNat_and] at this
  omega
theorem yq_and_u64 {t t' : TypeId} {x y : Operand} {a b : UInt64} (h : o.op = .binOp .and t x y t') (hx : ev n ρ x = U64 a) (hy : ev n ρ y = U64 b) : Yq P n w0 E o ρ L (U64 (a &&& b)) :=
  yq_val fun w _ => by
    simp only [execOp, h, hx, hy, Sem.run_bind, eqGuard_int]
    exact congrArg (fun z => Result.ok (Next.value (Value.int .u64 z)) w) (bits_and_u64 a b)
theorem bits_or_u64 (a b : UInt64) : IntKind.u64.wrap ((BitVec.ofInt 64 (a.toNat : Int) ||| BitVec.ofInt 64 (b.toNat : Int)).toNat : Int) = ((a ||| b).toNat : Int) := by
  rw [wrap_u64, ofInt_nat, ofInt_nat, BitVec.toNat_or, BitVec.toNat_ofNat, BitVec.toNat_ofNat, UInt64.toNat_or, Nat.mod_eq_of_lt a.toNat_lt, Nat.mod_eq_of_lt b.toNat_lt]
  have := (a ||| b).toNat_lt
  rw [UInt64.toNat_or] at this
  omega
theorem yq_or_u64 {t t' : TypeId} {x y : Operand} {a b : UInt64} (h : o.op = .binOp .or t x y t') (hx : ev n ρ x = U64 a) (hy : ev n ρ y = U64 b) : Yq P n w0 E o ρ L (U64 (a ||| b)) :=
  yq_val fun w _ => by
    simp only [execOp, h, hx, hy, Sem.run_bind, eqGuard_int]
    exact congrArg (fun z => Result.ok (Next.value (Value.int .u64 z)) w) (bits_or_u64 a b)
theorem yq_shl_u64 {t t' : TypeId} {x y : Operand} {a : UInt64} {k : IntKind} {s : Nat} (h : o.op = .binOp .shl t x y t') (hx : ev n ρ x = U64 a) (hy : ev n ρ y = .int k (s : Int)) (hs : s < 64) : Yq P n w0 E o ρ L (U64 (a <<< UInt64.ofNat s)) :=
  yq_shl_e h hx hy (by omega) (by
    have hm : min s 64 = s := by omega
    rw [Int.toNat_natCast]
    simp only [IntKind.bits, hm]
    rw [wrap_u64, UInt64.toNat_shiftLeft, UInt64.toNat_ofNat', Nat.shiftLeft_eq]
    rw [Nat.mod_eq_of_lt (show s < 2 ^ 64 by omega), Nat.mod_eq_of_lt hs, Int.natCast_emod, Int.natCast_mul, Int.natCast_pow]
    rfl)
theorem yq_shr_u64 {t t' : TypeId} {x y : Operand} {a : UInt64} {k : IntKind} {s : Nat} (h : o.op = .binOp .shr t x y t') (hx : ev n ρ x = U64 a) (hy : ev n ρ y = .int k (s : Int)) (hs : s < 64) : Yq P n w0 E o ρ L (U64 (a >>> UInt64.ofNat s)) :=
  yq_shr_e h hx hy (by omega) (by
    have hm : min s 64 = s := by omega
    rw [Int.toNat_natCast]
    simp only [IntKind.bits, hm]
    rw [UInt64.toNat_shiftRight, UInt64.toNat_ofNat', Nat.shiftRight_eq_div_pow]
    rw [Nat.mod_eq_of_lt (show s < 2 ^ 64 by omega), Nat.mod_eq_of_lt hs, Int.fdiv_eq_ediv_of_nonneg _ (by exact_mod_cast Nat.zero_le _)]
    push_cast
    rfl)

theorem yq_add_u8 {t t' : TypeId} {x y : Operand} {a b : UInt8} (h : o.op = .binOp .add t x y t') (hx : ev n ρ x = U8 a) (hy : ev n ρ y = U8 b) : Yq P n w0 E o ρ L (U8 (a + b)) :=
  yq_add_e h hx hy (by rw [wrap_u8, UInt8.toNat_add]; omega)
theorem yq_sub_u8 {t t' : TypeId} {x y : Operand} {a b : UInt8} (h : o.op = .binOp .sub t x y t') (hx : ev n ρ x = U8 a) (hy : ev n ρ y = U8 b) : Yq P n w0 E o ρ L (U8 (a - b)) :=
  yq_sub_e h hx hy (by rw [wrap_u8, UInt8.toNat_sub]; have := a.toNat_lt; have := b.toNat_lt; omega)
theorem yq_mul_u8 {t t' : TypeId} {x y : Operand} {a b : UInt8} (h : o.op = .binOp .mul t x y t') (hx : ev n ρ x = U8 a) (hy : ev n ρ y = U8 b) : Yq P n w0 E o ρ L (U8 (a * b)) :=
  yq_mul_e h hx hy (by rw [wrap_u8, UInt8.toNat_mul, Int.natCast_emod, Int.natCast_mul]; rfl)
theorem yq_quo_u8 {t t' : TypeId} {x y : Operand} {a b : UInt8} (h : o.op = .binOp .quo t x y t') (hx : ev n ρ x = U8 a) (hy : ev n ρ y = U8 b) (hb : b.toNat ≠ 0) : Yq P n w0 E o ρ L (U8 (a / b)) :=
  yq_quo_e h hx hy (by omega) (by
    rw [Int.tdiv_eq_ediv_of_nonneg (by omega), wrap_u8, UInt8.toNat_div, ← Int.natCast_ediv]
    have h1 := Nat.div_le_self a.toNat b.toNat
    have h2 := a.toNat_lt
    generalize a.toNat / b.toNat = q at *
    omega)
theorem yq_rem_u8 {t t' : TypeId} {x y : Operand} {a b : UInt8} (h : o.op = .binOp .rem t x y t') (hx : ev n ρ x = U8 a) (hy : ev n ρ y = U8 b) (hb : b.toNat ≠ 0) : Yq P n w0 E o ρ L (U8 (a % b)) :=
  yq_rem_e h hx hy (by omega) (by rw [Int.tmod_eq_emod_of_nonneg (by omega), UInt8.toNat_mod, Int.natCast_emod])
theorem bits_xor_u8 (a b : UInt8) : IntKind.u8.wrap ((BitVec.ofInt 8 (a.toNat : Int) ^^^ BitVec.ofInt 8 (b.toNat : Int)).toNat : Int) = ((a ^^^ b).toNat : Int) := by
  rw [wrap_u8, ofInt_nat, ofInt_nat, BitVec.toNat_xor, BitVec.toNat_ofNat, BitVec.toNat_ofNat, UInt8.toNat_xor, Nat.mod_eq_of_lt a.toNat_lt, Nat.mod_eq_of_lt b.toNat_lt]
  have := (a ^^^ b).toNat_lt
  rw [UInt8.toNat_xor] at this
  omega
theorem yq_xor_u8 {t t' : TypeId} {x y : Operand} {a b : UInt8} (h : o.op = .binOp .xor t x y t') (hx : ev n ρ x = U8 a) (hy : ev n ρ y = U8 b) : Yq P n w0 E o ρ L (U8 (a ^^^ b)) :=
  yq_val fun w _ => by
    simp only [execOp, h, hx, hy, Sem.run_bind, eqGuard_int]
    exact congrArg (fun z => Result.ok (Next.value (Value.int .u8 z)) w) (bits_xor_u8 a b)
theorem bits_and_u8 (a b : UInt8) : IntKind.u8.wrap ((BitVec.ofInt 8 (a.toNat : Int) &&& BitVec.ofInt 8 (b.toNat : Int)).toNat : Int) = ((a &&& b).toNat : Int) := by
  rw [wrap_u8, ofInt_nat, ofInt_nat, BitVec.toNat_and, BitVec.toNat_ofNat, BitVec.toNat_ofNat, UInt8.toNat_and, Nat.mod_eq_of_lt a.toNat_lt, Nat.mod_eq_of_lt b.toNat_lt]
  have := (a &&& b).toNat_lt
  rw [UInt8.toNat_and] at this
  omega
theorem yq_and_u8 {t t' : TypeId} {x y : Operand} {a b : UInt8} (h : o.op = .binOp .and t x y t') (hx : ev n ρ x = U8 a) (hy : ev n ρ y = U8 b) : Yq P n w0 E o ρ L (U8 (a &&& b)) :=
  yq_val fun w _ => by
    simp only [execOp, h, hx, hy, Sem.run_bind, eqGuard_int]
    exact congrArg (fun z => Result.ok (Next.value (Value.int .u8 z)) w) (bits_and_u8 a b)
theorem bits_or_u8 (a b : UInt8) : IntKind.u8.wrap ((BitVec.ofInt 8 (a.toNat : Int) ||| BitVec.ofInt 8 (b.toNat : Int)).toNat : Int) = ((a ||| b).toNat : Int) := by
  rw [wrap_u8, ofInt_nat, ofInt_nat, BitVec.toNat_or, BitVec.toNat_ofNat, BitVec.toNat_ofNat, UInt8.toNat_or, Nat.mod_eq_of_lt a.toNat_lt, Nat.mod_eq_of_lt b.toNat_lt]
  have := (a ||| b).toNat_lt
  rw [UInt8.toNat_or] at this
  omega
theorem yq_or_u8 {t t' : TypeId} {x y : Operand} {a b : UInt8} (h : o.op = .binOp .or t x y t') (hx : ev n ρ x = U8 a) (hy : ev n ρ y = U8 b) : Yq P n w0 E o ρ L (U8 (a ||| b)) :=
  yq_val fun w _ => by
    simp only [execOp, h, hx, hy, Sem.run_bind, eqGuard_int]
    exact congrArg (fun z => Result.ok (Next.value (Value.int .u8 z)) w) (bits_or_u8 a b)
theorem yq_shl_u8 {t t' : TypeId} {x y : Operand} {a : UInt8} {k : IntKind} {s : Nat} (h : o.op = .binOp .shl t x y t') (hx : ev n ρ x = U8 a) (hy : ev n ρ y = .int k (s : Int)) (hs : s < 8) : Yq P n w0 E o ρ L (U8 (a <<< UInt8.ofNat s)) :=
  yq_shl_e h hx hy (by omega) (by
    have hm : min s 8 = s := by omega
    rw [Int.toNat_natCast]
    simp only [IntKind.bits, hm]
    rw [wrap_u8, UInt8.toNat_shiftLeft, UInt8.toNat_ofNat', Nat.shiftLeft_eq]
    rw [Nat.mod_eq_of_lt (show s < 2 ^ 8 by omega), Nat.mod_eq_of_lt hs, Int.natCast_emod, Int.natCast_mul, Int.natCast_pow]
    rfl)
theorem yq_shr_u8 {t t' : TypeId} {x y : Operand} {a : UInt8} {k : IntKind} {s : Nat} (h : o.op = .binOp .shr t x y t') (hx : ev n ρ x = U8 a) (hy : ev n ρ y = .int k (s : Int)) (hs : s < 8) : Yq P n w0 E o ρ L (U8 (a >>> UInt8.ofNat s)) :=
  yq_shr_e h hx hy (by omega) (by
    have hm : min s 8 = s := by omega
    rw [Int.toNat_natCast]
    simp only [IntKind.bits, hm]
    rw [UInt8.toNat_shiftRight, UInt8.toNat_ofNat', Nat.shiftRight_eq_div_pow]
    rw [Nat.mod_eq_of_lt (show s < 2 ^ 8 by omega), Nat.mod_eq_of_lt hs, Int.fdiv_eq_ediv_of_nonneg _ (by exact_mod_cast Nat.zero_le _)]
    push_cast
    rfl)
theorem yq_conv_u8_u64 {s t : TypeId} {d : TypeDesc} {x : Operand} {a : UInt8} (h : o.op = .convert s t x) (hs : P.underlying s = some d) (ht : P.underlying t = some (.int .u64)) (hx : ev n ρ x = U8 a) : Yq P n w0 E o ρ L (U64 a.toUInt64) :=
  yq_conv_int h hs ht hx (by rw [wrap_u64, UInt8.toNat_toUInt64]; have := a.toNat_lt; omega)
theorem yq_conv_u64_u32 {s t : TypeId} {d : TypeDesc} {x : Operand} {a : UInt64} (h : o.op = .convert s t x) (hs : P.underlying s = some d) (ht : P.underlying t = some (.int .u32)) (hx : ev n ρ x = U64 a) : Yq P n w0 E o ρ L (U32 a.toUInt32) :=
  yq_conv_int h hs ht hx (by rw [wrap_u32, UInt64.toNat_toUInt32]; have := a.toNat_lt; omega)
theorem yq_conv_u32_u64 {s t : TypeId} {d : TypeDesc} {x : Operand} {a : UInt32} (h : o.op = .convert s t x) (hs : P.underlying s = some d) (ht : P.underlying t = some (.int .u64)) (hx : ev n ρ x = U32 a) : Yq P n w0 E o ρ L (U64 a.toUInt64) :=
  yq_conv_int h hs ht hx (by rw [wrap_u64, UInt32.toNat_toUInt64]; have := a.toNat_lt; omega)
theorem yq_conv_u64_u8 {s t : TypeId} {d : TypeDesc} {x : Operand} {a : UInt64} (h : o.op = .convert s t x) (hs : P.underlying s = some d) (ht : P.underlying t = some (.int .u8)) (hx : ev n ρ x = U64 a) : Yq P n w0 E o ρ L (U8 a.toUInt8) :=
  yq_conv_int h hs ht hx (by rw [wrap_u8, UInt64.toNat_toUInt8]; have := a.toNat_lt; omega)
theorem yq_conv_u8_u32 {s t : TypeId} {d : TypeDesc} {x : Operand} {a : UInt8} (h : o.op = .convert s t x) (hs : P.underlying s = some d) (ht : P.underlying t = some (.int .u32)) (hx : ev n ρ x = U8 a) : Yq P n w0 E o ρ L (U32 a.toUInt32) :=
  yq_conv_int h hs ht hx (by rw [wrap_u32, UInt8.toNat_toUInt32]; have := a.toNat_lt; omega)
/-- Of an int that is not below 0. -/
theorem yq_conv_i64_u64 {s t : TypeId} {d : TypeDesc} {x : Operand} {a : Int} (h : o.op = .convert s t x) (hs : P.underlying s = some d) (ht : P.underlying t = some (.int .u64)) (hx : ev n ρ x = .int .i64 a) (h0 : 0 ≤ a) : Yq P n w0 E o ρ L (U64 (UInt64.ofNat a.toNat)) :=
  yq_conv_int h hs ht hx (by rw [wrap_u64, UInt64.toNat_ofNat']; omega)
/-- Of an int that is not below 0. -/
theorem yq_conv_i64_u8 {s t : TypeId} {d : TypeDesc} {x : Operand} {a : Int} (h : o.op = .convert s t x) (hs : P.underlying s = some d) (ht : P.underlying t = some (.int .u8)) (hx : ev n ρ x = .int .i64 a) (h0 : 0 ≤ a) : Yq P n w0 E o ρ L (U8 (UInt8.ofNat a.toNat)) :=
  yq_conv_int h hs ht hx (by rw [wrap_u8, UInt8.toNat_ofNat']; omega)
theorem yq_conv_u8_i64 {s t : TypeId} {d : TypeDesc} {x : Operand} {a : UInt8} (h : o.op = .convert s t x) (hs : P.underlying s = some d) (ht : P.underlying t = some (.int .i64)) (hx : ev n ρ x = U8 a) : Yq P n w0 E o ρ L (.int .i64 (a.toNat : Int)) :=
  yq_conv_int h hs ht hx (by have := a.toNat_lt; exact wrap64_in ⟨by omega, by omega⟩)
theorem yq_conv_u64_i64 {s t : TypeId} {d : TypeDesc} {x : Operand} {a : UInt64} (h : o.op = .convert s t x) (hs : P.underlying s = some d) (ht : P.underlying t = some (.int .i64)) (hx : ev n ρ x = U64 a) (hr : a.toNat ≤ 9223372036854775807) : Yq P n w0 E o ρ L (.int .i64 (a.toNat : Int)) :=
  yq_conv_int h hs ht hx (by have := a.toNat_lt; exact wrap64_in ⟨by omega, by omega⟩)
theorem yq_conv_u32_i64 {s t : TypeId} {d : TypeDesc} {x : Operand} {a : UInt32} (h : o.op = .convert s t x) (hs : P.underlying s = some d) (ht : P.underlying t = some (.int .i64)) (hx : ev n ρ x = U32 a) : Yq P n w0 E o ρ L (.int .i64 (a.toNat : Int)) :=
  yq_conv_int h hs ht hx (by have := a.toNat_lt; exact wrap64_in ⟨by omega, by omega⟩)
end
end Go.WL

namespace Go.WL
open Go.Spec
section
variable {P : Program} {n : Nat} {w0 : World} {E : List Nat} {o : Oper} {ρ : Nat → Value} {L : List Ent}

theorem Cl.perm {L' : List Ent} {w : World} (h : Cl w0 E L w) (hp : L.Perm L') : Cl w0 E L' w :=
  ⟨h.os, h.tape, h.output, h.size, h.old, fun x hx => h.own x (hp.mem_iff.2 hx), fun x hx => h.new x (hp.mem_iff.2 hx), (hp.filterMap _).nodup_iff.1 h.nodup⟩

inductive Del (x : Ent) : List Ent → List Ent → Prop where
  | head {L : List Ent} : Del x (x :: L) L
  | tail {z : Ent} {L L' : List Ent} : Del x L L' → Del x (z :: L) (z :: L')
theorem Del.perm {x : Ent} {L L' : List Ent} (h : Del x L L') : L.Perm (x :: L') := by
  induction h with
  | head => exact .refl _
  | tail _ ih => exact (ih.cons _).trans (List.Perm.swap _ _ _)

theorem Cl.push {w : World} (h : Cl w0 E L w) (d : Nat) (cs : Array Value) (T : TypeId) (y : Ent) (hf : y.fp = some w.heap.size) (hy : y.ok { w with drawn := d, heap := w.heap.push (.cells cs T) }) :
    Cl w0 E (y :: L) { w with drawn := d, heap := w.heap.push (.cells cs T) } := by
  have h' := h.alloc cs T
  refine ⟨h'.os, h'.tape, h'.output, h'.size, h'.old, ?_, ?_, ?_⟩
  · intro x hx
    rcases List.mem_cons.1 hx with rfl | hx
    · exact hy
    · exact Ent.ok_of_same (h'.own x (by simp [hx])) (fun _ _ => rfl)
  · intro x hx b hb
    rcases List.mem_cons.1 hx with rfl | hx
    · rw [hf] at hb; cases hb; exact .inl h.size
    · exact h'.new x (by simp [hx]) b hb
  · have := h'.nodup
    simp only [List.filterMap_cons, Ent.fp] at this
    simp only [List.filterMap_cons, hf]
    exact this

/-- A new entry that knows nothing. -/
theorem OW.nilrow {ops : Array Oper} {rest : List Oper} {Q : Post} (e : TypeId) (size : Nat) (h : OW P n w0 E ops rest Q ρ (.row none 0 0 e size [] :: L)) : OW P n w0 E ops rest Q ρ L := by
  intro a w hf hc
  refine h a w hf ⟨hc.os, hc.tape, hc.output, hc.size, hc.old, ?_, ?_, ?_⟩
  · intro x hx
    rcases List.mem_cons.1 hx with rfl | hx
    · exact World.ownsRow_nil w 0 e size
    · exact hc.own x hx
  · intro x hx b hb
    rcases List.mem_cons.1 hx with rfl | hx
    · cases hb
    · exact hc.new x hx b hb
  · simp only [List.filterMap_cons, Ent.fp]; exact hc.nodup
theorem CW.nilrow {c : Code} {Q : Post} (e : TypeId) (size : Nat) (h : CW P n w0 E c Q ρ (.row none 0 0 e size [] :: L)) : CW P n w0 E c Q ρ L := by
  intro a w hf hc
  refine h a w hf ⟨hc.os, hc.tape, hc.output, hc.size, hc.old, ?_, ?_, ?_⟩
  · intro x hx
    rcases List.mem_cons.1 hx with rfl | hx
    · exact World.ownsRow_nil w 0 e size
    · exact hc.own x hx
  · intro x hx b hb
    rcases List.mem_cons.1 hx with rfl | hx
    · cases hb
    · exact hc.new x hx b hb
  · simp only [List.filterMap_cons, Ent.fp]; exact hc.nodup

theorem info_of {T : TypeId} {s b : Nat} {g : Bool} {zs : List Value} (ti : tinfo P T = some (s, g, b)) (tz : tzero P T = some zs) : ∃ i z, P.info? T = some i ∧ i.size = s ∧ i.bytes = b ∧ i.zero = some z ∧ z.cells = zs.toArray := by
  obtain ⟨i, h1, h2, h3⟩ := run_typeInfo ti
  unfold tzero at tz
  rw [h1] at tz
  cases hz : i.zero with
  | none => simp [hz] at tz
  | some z => simp [hz] at tz; exact ⟨i, z, h1, h2, h3, hz, by rw [← tz]⟩

theorem OW.append {ops : Array Oper} {rest : List Oper} {Q : Post} {s x : Operand} {T e : TypeId} {a : Option Nat} {k cap m c size bytes : Nat} {sa : Addr} {g : Bool} {xs news zs : List Value} {L' : List Ent} {d : Tmp}
    (hw : Region.wanted o (yl n ops ρ) = true) (hd : o.dst = some d) (h : o.op = .call ⟨.builtin .append, #[s, x], #[T, T]⟩)
    (hs : ev n ρ s = rowV a k cap) (hx : ev n ρ x = .slice (some sa) m c) (ht : tslice P T = some e) (ti : tinfo P e = some (size, g, bytes)) (tz : tzero P e = some zs)
    (hdel : Del (.row a cap k e size xs) L L') (hnews : ∀ w, Cl w0 E L w → ∀ j u, news[j]? = some u → w.cell? (sa.add j) = some u) (hl : news.length = m * size) (h1 : ∀ u ∈ news, u.oneCell' = true)
    (hz : zs.length = size) (h0 : 0 < size) (hm : k + m ≤ maxLen) (hb : (k + m) * bytes ≤ 140737488355328)
    (hn : ∀ a' cap', OW P n w0 E ops rest Q (upd ρ d (rowV a' (k + m) cap')) (.row a' cap' (k + m) e size (xs ++ news) :: L')) : OW P n w0 E ops (o :: rest) Q ρ L := by
  refine OW.m hw fun w hc => ?_
  rw [hd]
  have hc' := hc.perm hdel.perm
  have hown : w.ownsRow 0 e size (rowV a k cap) k xs := hc'.own (.row a cap k e size xs) (by simp)
  obtain ⟨i, z, hi, hsz, hby, hzz, hzc⟩ := info_of ti tz
  have hu := und_slice ht
  subst hsz
  subst hby
  have hnews := hnews w hc
  have hcr : ∀ {v w'}, (Builtin.append_ #[T, T] o.type #[rowV a k cap, .slice (some sa) m c]).run P w = .ok v w' → (execOp (ev n ρ) o).run P w = .ok (.value v) w' := by
    intro v w' hr
    simp [execOp, h, resolve, hs, hx, invoke, builtin, hr]
  have hlen : (xs ++ news).length = (k + m) * i.size := by rw [List.length_append, hown.1, hl, Nat.add_mul]
  have hsmall : k + m ≤ 9223372036854775807 := by simp only [maxLen] at hm; omega
  have grown : ∀ (old : Nat), old < k + m → ∀ (cs : Array Value), cs = xs.toArray ++ news.toArray ++ Builtin.zeroCells z.cells (grownCap w (k + m) old e - (k + m)) → ∀ (d : Nat),
      Cl w0 E (.row (some w.heap.size) (grownCap w (k + m) old e) (k + m) e i.size (xs ++ news) :: L') { w with drawn := d, heap := w.heap.push (.cells cs e) } := by
    intro old ho cs hcs d
    subst hcs
    have hge := grownCap_ge w (k + m) old e
    have hcm : grownCap w (k + m) old e ≤ maxLen := grownCap_le_maxLen w (k + m) old e hm
    refine (hc'.sub (List.sublist_cons_self _ _)).push d _ e _ rfl ⟨hlen, .inr ⟨w.heap.size, _, xs.toArray ++ news.toArray ++ Builtin.zeroCells z.cells (grownCap w (k + m) old e - (k + m)), rfl, Nat.zero_le _, by simp, hge, hcm, ?_, ?_⟩⟩
    · simp only [Array.size_append, List.size_toArray, size_zeroCells, hzc, hz, hown.1, hl, ← Nat.add_mul]
      congr 1
      omega
    · simp only [Array.toList_append, List.append_assoc]
      rw [← List.append_assoc, ← hlen]
      exact List.take_left
  cases a with
  | none =>
    have hk : k = 0 ∧ cap = 0 := by
      rcases hown.2 with ⟨hv, h2⟩ | ⟨g, cap', cur, hv, _⟩
      · simp [rowV] at hv; exact ⟨h2, hv.2⟩
      · simp [rowV] at hv
    obtain ⟨rfl, rfl⟩ := hk
    have hx0 : xs = [] := List.eq_nil_of_length_eq_zero (by simpa using hown.1)
    subst hx0
    by_cases hm0 : m = 0
    · subst hm0
      have hn0 : news = [] := List.eq_nil_of_length_eq_zero (by simpa using hl)
      subst hn0
      refine ⟨rowV none 0 0, _, w, .inl (hcr ?_), hc', hn none 0⟩
      simp [rowV, Builtin.append_, run_underlying hu, sizeOf, typeInfo, hi, Builtin.lenOf, Builtin.firstCells, loadCells, loadCellsFrom]
    · have hr := run_append_nil (P := P) w T o.type e i z hu hi hzz sa m c news hl hnews (by omega) (by omega) (by have hb := hb; simp only [Nat.zero_add] at hb; omega)
      have hn' := hn (some w.heap.size) (grownCap w m 0 e)
      rw [Nat.zero_add] at hn'
      refine ⟨_, _, _, .inl (hcr hr), ?_, hn'⟩
      have := grown 0 (by omega) (news.toArray ++ Builtin.zeroCells z.cells (grownCap w m 0 e - m)) (by simp) (w.drawn + 1)
      simp only [Nat.zero_add, List.nil_append] at this ⊢
      exact this
  | some b =>
    obtain ⟨g, cap', cur, hv, hbg, hg, hnc, hcm, hcs, htake⟩ : ∃ g cap' cur, rowV (some b) k cap = .slice (some ⟨g, 0, none⟩) k cap' ∧ 0 ≤ g ∧ w.heap[g]? = some (.cells cur e (0, 0)) ∧ k ≤ cap' ∧ cap' ≤ maxLen ∧ cur.size = cap' * i.size ∧ cur.toList.take (k * i.size) = xs := by
      rcases hown.2 with ⟨hv, _⟩ | h
      · simp [rowV] at hv
      · exact h
    obtain ⟨rfl, rfl⟩ : b = g ∧ cap = cap' := by simpa [rowV] using hv
    by_cases hroom : k + m ≤ cap
    · have hfit : k * i.size + news.length ≤ cur.size := by rw [hl, hcs, ← Nat.add_mul]; exact Nat.mul_le_mul_right _ hroom
      have hr := run_append_room (P := P) w T o.type e i hu hi b k cap cur hg sa m c news hl hnews h1 hroom hfit
      refine ⟨_, _, _, .inl (hcr hr), ?_, hn (some b) cap⟩
      refine hc'.put .head rfl rfl rfl rfl rfl (by simp) (fun j hj => setRow_other w b j _ hj) ⟨hlen, .inr ⟨b, cap, _, rfl, Nat.zero_le _, setRow_heap w b cur _ e _ hg, hroom, hcm, ?_, ?_⟩⟩
      · simp only [List.size_toArray, List.length_append, List.length_take, List.length_drop, Array.length_toList]
        omega
      · rw [htake, ← hlen]
        exact List.take_left
    · have holds : ∀ j u, xs[j]? = some u → w.cell? ((⟨b, 0, none⟩ : Addr).add j) = some u := hown.cells (g := b) rfl
      have hr := run_append_grow (P := P) w T o.type e i z hu hi hzz ⟨b, 0, none⟩ k cap xs hown.1 holds sa m c news hl hnews (by omega) (by omega) (growslice_fits (by omega) hb)
      refine ⟨_, _, _, .inl (hcr hr), ?_, hn (some w.heap.size) (grownCap w (k + m) cap e)⟩
      exact grown cap (by omega) _ rfl (w.drawn + 1)

/-- A slice of so many zeros. -/
theorem OW.make {ops : Array Oper} {rest : List Oper} {Q : Post} {l c : Operand} {T e : TypeId} {k : Int} {size bytes : Nat} {g : Bool} {zs cs : List Value} {d : Tmp}
    (hw : Region.wanted o (yl n ops ρ) = true) (hd : o.dst = some d) (h : o.op = .makeSlice T l c) (hl : ev n ρ l = .int .i64 k) (hc : ev n ρ c = .int .i64 k) (ht : tslice P T = some e) (ti : tinfo P e = some (size, g, bytes)) (tz : tzero P e = some zs)
    (h0 : 0 ≤ k) (hb : (bytes : Int) * k ≤ 281474976710656) (h63 : k ≤ 9223372036854775807) (hcs : (madeCells zs.toArray (k.toNat * size)).toList = cs)
    (hn : ∀ b, OW P n w0 E ops rest Q (upd ρ d (.slice (some ⟨b, 0, none⟩) k.toNat k.toNat)) (.blk b cs e (0, 0) :: L)) : OW P n w0 E ops (o :: rest) Q ρ L := by
  refine OW.m hw fun w hcl => ?_
  rw [hd]
  obtain ⟨i, z, hi, hsz, hby, hzz, hzc⟩ := info_of ti tz
  subst hsz
  subst hby
  have hr := run_make (P := P) w T e i z (und_slice ht) hi hzz .i64 .i64 k k h0 (Int.le_refl _) hb h63
  rw [hzc] at hr
  refine ⟨.slice (some ⟨w.heap.size, 0, none⟩) k.toNat k.toNat, _, w.alloc (.cells (madeCells zs.toArray (k.toNat * i.size)) e), .inl (by simp [execOp, h, hl, hc, hr]), ?_, hn w.heap.size⟩
  have := hcl.alloc (madeCells zs.toArray (k.toNat * i.size)) e
  rw [hcs] at this
  exact this

theorem made_one (z : Value) (k : Nat) : (madeCells [z].toArray k).toList = List.replicate k z := toList_madeCells_one z k

/-! ### bytes to a string, a string to bytes -/
theorem push_bytes (l : Bytes) : (l.map fun x => (x.toNat : Int)).foldl (fun (r : ByteArray) (n : Int) => r.push (UInt8.ofNat n.toNat)) ByteArray.empty = bs l := by
  rw [foldl_push_bytes]
  apply ByteArray.ext
  simp [bs, ByteArray.empty, ByteArray.emptyWithCapacity]
  exact (List.map_congr_left (g := id) (fun x _ => by simp)).trans (List.map_id _)
theorem yq_conv_bytes {S T e : TypeId} {x : Operand} {a : Addr} {len cap : Nat} {l : Bytes} (h : o.op = .convert S T x) (hS : tslice P S = some e) (he : P.underlying e = some (.int .u8)) (hT : tstr P T = true) (hx : ev n ρ x = .slice (some a) len cap) (hl : l.length = len)
    (hc : ∀ w, Cl w0 E L w → ∀ j u, (bc l)[j]? = some u → w.cell? (a.add j) = some u) : Yq P n w0 E o ρ L (.string (bs l)) :=
  yq_val fun w hw => by
    have h1 := run_loadCells_list (P := P) w a (bc l) (hc w hw)
    rw [bc_length, hl] at h1
    have h2 : (bc l).toArray = ((l.map fun x => (x.toNat : Int)).map (Value.int .u8)).toArray := by simp [bc]
    rw [h2] at h1
    have h3 := run_bytesToString (P := P) w a len cap _ h1
    rw [push_bytes] at h3
    simp [execOp, h, hx, convert, run_und (und_slice hS), run_und (und_str hT), run_und he, h3]
theorem yq_conv_bytes_nil {S T e : TypeId} {x : Operand} {len cap : Nat} (h : o.op = .convert S T x) (hS : tslice P S = some e) (he : P.underlying e = some (.int .u8)) (hT : tstr P T = true) (hx : ev n ρ x = .slice none len cap) : Yq P n w0 E o ρ L (.string (bs [])) :=
  yq_val fun w hw => by
    simp [execOp, h, hx, convert, run_und (und_slice hS), run_und (und_str hT), run_und he, Conv.bytesToString]
    rfl

/-! ### copy of a string into a block of ours -/
theorem OW.copy_str {ops : Array Oper} {rest : List Oper} {Q : Post} {x y : Operand} {T e : TypeId} {ats : List TypeId} {b off len cap : Nat} {s : ByteArray} {cs : List Value} {Tb : TypeId} {L' : List Ent} {g : Bool} {by_ : Nat} {d : Tmp}
    (hw : Region.wanted o (yl n ops ρ) = true) (hd : o.dst = some d) (h : o.op = .call ⟨.builtin .copy, #[x, y], (T :: ats).toArray⟩) (hx : ev n ρ x = .slice (some ⟨b, off, none⟩) len cap) (hy : ev n ρ y = .string s)
    (ht : tslice P T = some e) (ti : tinfo P e = some (1, g, by_))
    (hp : Put (.blk b cs Tb (0, 0)) (.blk b (spl cs off (bc (s.data.toList.take (min s.size len)))) Tb (0, 0)) L L') (hf : off + min s.size len ≤ cs.length)
    (hn : OW P n w0 E ops rest Q (upd ρ d (.int .i64 (min s.size len : Nat))) L') : OW P n w0 E ops (o :: rest) Q ρ L := by
  have hsz : s.data.toList.length = s.size := rfl
  have hlen : (bc (s.data.toList.take (min s.size len))).length = min s.size len := by
    rw [bc_length, List.length_take, hsz]; omega
  refine OW.m hw fun w hc => ⟨.int .i64 (min s.size len : Nat), L', w.setRow b (spl cs off (bc (s.data.toList.take (min s.size len)))).toArray, .inl ?_, hc.setRow hp, by rw [hd]; exact hn⟩
  have hb := hc.own _ hp.mem
  have hst := run_storeCells_at P b off Tb (bc (s.data.toList.take (min s.size len))) 0 cs.toArray w hb (by simp only [hlen, List.size_toArray]; omega) (bc_one _)
  simp only [Nat.add_zero, List.toList_toArray] at hst
  have hfc : ∀ sz, (Builtin.firstCells sz (Nat.min s.size len) (.string s)).run P w = .ok (bc (s.data.toList.take (min s.size len))).toArray w := by
    intro sz
    have hcells : (s.extract 0 (min s.size len)).data.map (fun b => Value.int .u8 (b.toNat : Int)) = (bc (s.data.toList.take (min s.size len))).toArray := by
      apply Array.ext'
      rw [ByteArray.data_extract, Array.toList_map, Array.toList_extract]
      simp [bc, List.extract_eq_take_drop]
    show Result.ok _ w = _
    rw [← hcells]
  have hcp : (Builtin.copy_ (T :: ats).toArray o.type #[.slice (some ⟨b, off, none⟩) len cap, .string s]).run P w = .ok (.int .i64 (min s.size len : Nat)) (w.setRow b (spl cs off (bc (s.data.toList.take (min s.size len)))).toArray) := by
    simp [Builtin.copy_, run_und (und_slice ht), Builtin.lenOf, run_size ti, hfc, hst, goInt, spl]
  simp [execOp, h, resolve, hx, hy, invoke, builtin, hcp]
/-- A store, the block's new content told by an equation. -/
theorem OW.store' {ops : Array Oper} {rest : List Oper} {Q : Post} {a x : Operand} {v : Value} {b off : Nat} {cs vs cs' : List Value} {T Tb : TypeId} {L' : List Ent} {g : Bool} {by_ : Nat}
    (hw : Region.wanted o (yl n ops ρ) = true) (hd : o.dst = none) (h : o.op = .store T a x) (ha : ev n ρ a = .pointer (some ⟨b, off, none⟩)) (hx : ev n ρ x = v)
    (ti : tinfo P T = some (vs.length, g, by_)) (hv : v.cells = vs.toArray) (h1 : ∀ u ∈ vs, u.oneCell' = true)
    (hp : Put (.blk b cs Tb (0, 0)) (.blk b cs' Tb (0, 0)) L L') (hcs : spl cs off vs = cs') (hf : off + vs.length ≤ cs.length)
    (hn : OW P n w0 E ops rest Q ρ L') : OW P n w0 E ops (o :: rest) Q ρ L := by
  subst hcs
  exact OW.store hw hd h ha hx ti hv h1 hp hf hn
/-- One cell. -/
theorem OW.store1 {ops : Array Oper} {rest : List Oper} {Q : Post} {a x : Operand} {v : Value} {b off : Nat} {cs cs' : List Value} {T Tb : TypeId} {L' : List Ent} {g : Bool} {by_ : Nat}
    (hw : Region.wanted o (yl n ops ρ) = true) (hd : o.dst = none) (h : o.op = .store T a x) (ha : ev n ρ a = .pointer (some ⟨b, off, none⟩)) (hx : ev n ρ x = v)
    (ti : tinfo P T = some (1, g, by_)) (h1 : v.oneCell' = true)
    (hp : Put (.blk b cs Tb (0, 0)) (.blk b cs' Tb (0, 0)) L L') (hcs : spl cs off [v] = cs') (hf : off + 1 ≤ cs.length)
    (hn : OW P n w0 E ops rest Q ρ L') : OW P n w0 E ops (o :: rest) Q ρ L :=
  OW.store' (vs := [v]) hw hd h ha hx ti (cells_one h1) (by simpa using h1) hp hcs hf hn
end
end Go.WL

namespace Go.WL
open Go.Spec
section
variable {P : Program} {n : Nat} {w0 : World} {E : List Nat} {o : Oper} {ρ : Nat → Value} {L : List Ent}
theorem bs_surj (s : ByteArray) : ∃ l, s = bs l := ⟨s.data.toList, (bs_of s).symm⟩
theorem yq_add_bs {t t' : TypeId} {x y : Operand} {a b : Bytes} (h : o.op = .binOp .add t x y t') (hx : ev n ρ x = .string (bs a)) (hy : ev n ρ y = .string (bs b)) (hr : a.length + b.length ≤ 9223372036854775807) : Yq P n w0 E o ρ L (.string (bs (a ++ b))) := by
  have := yq_add_str (P := P) (w0 := w0) (E := E) (L := L) h hx hy hr
  rwa [bs_append] at this
theorem yq_eql_bs {t t' : TypeId} {x y : Operand} {a b : Bytes} (h : o.op = .binOp .eql t x y t') (hx : ev n ρ x = .string (bs a)) (hy : ev n ρ y = .string (bs b)) : Yq P n w0 E o ρ L (.bool (decide (a = b))) := by
  have := yq_eql_str (P := P) (w0 := w0) (E := E) (L := L) h hx hy
  rwa [show decide (bs a = bs b) = decide (a = b) from by simp [bs_inj]] at this
theorem yq_neq_bs {t t' : TypeId} {x y : Operand} {a b : Bytes} (h : o.op = .binOp .neq t x y t') (hx : ev n ρ x = .string (bs a)) (hy : ev n ρ y = .string (bs b)) : Yq P n w0 E o ρ L (.bool (decide (a ≠ b))) := by
  have := yq_neq_str (P := P) (w0 := w0) (E := E) (L := L) h hx hy
  rwa [show decide (bs a ≠ bs b) = decide (a ≠ b) from by simp [bs_inj]] at this
theorem yq_len_bs {T : TypeId} {ats : List TypeId} {x : Operand} {a : Bytes} (h : o.op = .call ⟨.builtin .len, [x].toArray, (T :: ats).toArray⟩) (ht : tstr P T = true) (hx : ev n ρ x = .string (bs a)) : Yq P n w0 E o ρ L (.int .i64 (a.length : Int)) :=
  yq_len_str h ht hx
theorem bget_bs (a : Bytes) (k : Nat) : (bs a)[k]? = a[k]? := by
  by_cases h : k < a.length
  · rw [getElem?_pos (bs a) k h, List.getElem?_eq_getElem h]; rfl
  · rw [getElem?_neg (bs a) k h, List.getElem?_eq_none (Nat.le_of_not_lt h)]
theorem yq_index_bs {T : TypeId} {x i : Operand} {k : IntKind} {a : Bytes} {j : Int} {c : UInt8} (h : o.op = .index T x i) (hx : ev n ρ x = .string (bs a)) (hi : ev n ρ i = .int k j) (ht : tstr P T = true) (h0 : 0 ≤ j) (hv : a[j.toNat]? = some c) : Yq P n w0 E o ρ L (U8 c) :=
  yq_index_str h hx hi ht h0 (by rw [bget_bs]; exact hv)
theorem bs_extract (a : Bytes) (l h : Nat) : (bs a).extract l h = bs ((a.drop l).take (h - l)) := by
  apply ByteArray.ext
  rw [ByteArray.data_extract]
  apply Array.ext'
  rw [Array.toList_extract]
  simp [bs, List.extract_eq_take_drop]
theorem yq_slice_bs {T : TypeId} {x : Operand} {lo hi : Option Operand} {a : Bytes} {l h : Nat} (ho : o.op = .slice T x lo hi none) (hx : ev n ρ x = .string (bs a)) (ht : tstr P T = true) (hl : bnd n ρ lo 0 l) (hh : bnd n ρ hi a.length h) (h1 : l ≤ h) (h2 : h ≤ a.length) :
    Yq P n w0 E o ρ L (.string (bs ((a.drop l).take (h - l)))) := by
  have := yq_slice_str (P := P) (w0 := w0) (E := E) (L := L) ho hx ht hl hh h1 h2
  rwa [bs_extract] at this
/-- The bytes behind a place. -/
theorem yq_slice_bs_from {T : TypeId} {x : Operand} {lo : Option Operand} {a : Bytes} {l : Nat} (ho : o.op = .slice T x lo none none) (hx : ev n ρ x = .string (bs a)) (ht : tstr P T = true) (hl : bnd n ρ lo 0 l) (h1 : l ≤ a.length) :
    Yq P n w0 E o ρ L (.string (bs (a.drop l))) := by
  have := yq_slice_bs (P := P) (w0 := w0) (E := E) (L := L) (hi := none) ho hx ht hl rfl h1 (Nat.le_refl _)
  rwa [List.take_of_length_le (by simp)] at this
/-- The first bytes. -/
theorem yq_slice_bs_to {T : TypeId} {x : Operand} {hi : Option Operand} {a : Bytes} {h : Nat} (ho : o.op = .slice T x none hi none) (hx : ev n ρ x = .string (bs a)) (ht : tstr P T = true) (hh : bnd n ρ hi a.length h) (h1 : h ≤ a.length) :
    Yq P n w0 E o ρ L (.string (bs (a.take h))) := by
  have := yq_slice_bs (P := P) (w0 := w0) (E := E) (L := L) (lo := none) ho hx ht rfl hh (Nat.zero_le _) h1
  simpa using this
/-- A copy of a string that has room. -/
theorem OW.copy_bs {ops : Array Oper} {rest : List Oper} {Q : Post} {x y : Operand} {T e : TypeId} {ats : List TypeId} {b off len cap : Nat} {l : Bytes} {cs cs' : List Value} {Tb : TypeId} {L' : List Ent} {g : Bool} {by_ : Nat} {d : Tmp}
    (hw : Region.wanted o (yl n ops ρ) = true) (hd : o.dst = some d) (h : o.op = .call ⟨.builtin .copy, #[x, y], (T :: ats).toArray⟩) (hx : ev n ρ x = .slice (some ⟨b, off, none⟩) len cap) (hy : ev n ρ y = .string (bs l))
    (ht : tslice P T = some e) (ti : tinfo P e = some (1, g, by_)) (hlen : l.length ≤ len)
    (hp : Put (.blk b cs Tb (0, 0)) (.blk b cs' Tb (0, 0)) L L') (hcs : spl cs off (bc l) = cs') (hf : off + l.length ≤ cs.length)
    (hn : OW P n w0 E ops rest Q (upd ρ d (.int .i64 (l.length : Int))) L') : OW P n w0 E ops (o :: rest) Q ρ L := by
  have hm : min (bs l).size len = l.length := by rw [bs_size]; omega
  have ht' : (bs l).data.toList.take (min (bs l).size len) = l := by rw [hm, bs_toList, List.take_length]
  refine OW.copy_str (Tb := Tb) (L' := L') hw hd h hx hy ht ti ?_ (by rw [hm]; exact hf) (by rw [hm]; exact hn)
  rw [ht', hcs]
  exact hp
end
end Go.WL

namespace Go.WL
open Go.Spec
section
variable {P : Program} {n : Nat} {w0 : World} {E : List Nat} {o : Oper} {ρ : Nat → Value} {L : List Ent}

theorem OW.slicelit {ops : Array Oper} {rest : List Oper} {Q : Post} {T e : TypeId} {len s y : Nat} {g : Bool} {zs : List Value} {parts : List (Nat × Operand)} {vs cs : List Value} {d : Tmp}
    (hw : Region.wanted o (yl n ops ρ) = true) (hd : o.dst = some d) (h : o.op = .buildSlice T len parts.toArray) (hp : parts.map (fun p => (p.1, ev n ρ p.2)) = (vs.zipIdx 0).map fun x => (x.2, x.1))
    (ht : tslice P T = some e) (ti : tinfo P e = some (s, g, y)) (tz : tzero P e = some zs) (h0 : 0 < s) (hl : vs.length = len) (hl0 : 0 < len) (h1 : ∀ v ∈ vs, v.cells.size = s) (hb : len * s ≤ 16777216)
    (hcs : vs.flatMap (fun v => v.cells.toList) = cs)
    (hn : ∀ b, OW P n w0 E ops rest Q (upd ρ d (.slice (some ⟨b, 0, none⟩) len len)) (.blk b cs e (0, 0) :: L)) : OW P n w0 E ops (o :: rest) Q ρ L := by
  refine OW.m hw fun w hc => ?_
  rw [hd]
  obtain ⟨z, hz1, hz2⟩ := run_zero tz w
  subst hcs
  have e1 : (parts.toArray.map fun (i, x) => (i, ev n ρ x)) = ((vs.zipIdx 0).map fun x => (x.2, x.1)).toArray := by rw [List.map_toArray, ← hp]
  have hfill := Great.fill_whole h0 vs ((Array.range (len * s)).map (zs.toArray[· % zs.toArray.size]!)) h1 (by simp [hl])
  have hpos : ¬ (len * s = 0) := Nat.ne_of_gt (Nat.mul_pos hl0 h0)
  have hr : (execOp (ev n ρ) o).run P w = .ok (.value (.slice (some ⟨w.heap.size, 0, none⟩) len len)) { w with heap := w.heap.push (.cells (vs.flatMap fun v => v.cells.toList).toArray e) } := by
    have hb' : ¬ (len * s > 2 ^ 24) := by
      have : (2 : Nat) ^ 24 = 16777216 := by decide
      omega
    simp only [execOp, h, e1, Instr.buildSlice]
    simp only [Sem.run_bind, run_und (und_slice ht), Result.andThen_ok, run_size ti, if_neg hb', if_neg hpos, Sem.run_pure, hz1, hz2, List.toList_toArray]
    simp only [hfill]
    simp [newRow, newObj, Sem.run]
  exact ⟨_, _, _, .inl hr, by simpa using hc.alloc (vs.flatMap fun v => v.cells.toList).toArray e, hn w.heap.size⟩

/-! ### a slice of ours: a row, or the bytes of a string -/
inductive Sl (e : TypeId) (size : Nat) : Value → Nat → List Value → Ent → Prop where
  | row {a : Option Nat} {k cap : Nat} {xs : List Value} : Sl e size (rowV a k cap) k xs (.row a cap k e size xs)
  | fz {b k cap : Nat} {cs xs : List Value} (hl : cs.length = cap * size) (hk : k ≤ cap) (hm : cap ≤ maxLen) (hx : cs.take (k * size) = xs) :
      Sl e size (.slice (some ⟨b, 0, none⟩) k cap) k xs (.blk b cs e (cap * size, cap * size + 1))

theorem setCells_far {g : Nat} : ∀ (vs : List Value) (o : Nat) {w : World} (k : Nat), k ≠ g → (w.setCells g o vs).heap[k]? = w.heap[k]?
  | [], _, _, _, _ => rfl
  | v :: r, o, w, k, hk => by
    rw [World.setCells, setCells_far r (o + 1) k hk]
    simp [World.setCell, Array.getElem?_modify, Ne.symm hk]
theorem setCells_same (g : Nat) : ∀ (vs : List Value) (o : Nat) (w : World), (w.setCells g o vs).os = w.os ∧ (w.setCells g o vs).tape = w.tape ∧ (w.setCells g o vs).output = w.output ∧ (w.setCells g o vs).heap.size = w.heap.size
  | [], _, _ => ⟨rfl, rfl, rfl, rfl⟩
  | v :: r, o, w => by
    obtain ⟨h1, h2, h3, h4⟩ := setCells_same g r (o + 1) (w.setCell ⟨g, o, none⟩ v)
    rw [World.setCells]
    exact ⟨h1, h2, h3, by rw [h4]; simp [World.setCell]⟩
theorem setCells_row {g : Nat} {e : TypeId} {fz : Nat × Nat} : ∀ (vs : List Value) (o : Nat) (w : World) (cs : List Value), w.heap[g]? = some (.cells cs.toArray e fz) → o + vs.length ≤ cs.length →
    (w.setCells g o vs).heap[g]? = some (.cells (spl cs o vs).toArray e fz)
  | [], o, w, cs, h, _ => by simpa [World.setCells, spl] using h
  | v :: r, o, w, cs, h, hl => by
    simp only [List.length_cons] at hl
    have h2 : (w.setCell ⟨g, o, none⟩ v).heap[g]? = some (.cells (cs.set o v).toArray e fz) := by
      simp [World.setCell, Array.getElem?_modify, h]
    rw [World.setCells, setCells_row r (o + 1) _ (cs.set o v) h2 (by simp; omega)]
    congr 3
    unfold spl
    rw [List.drop_set_of_lt (by omega), List.take_set, List.take_succ_eq_append_getElem (by omega), List.set_append_right _ _ (by rw [List.length_take]; omega)]
    simp [Nat.min_eq_left (show o ≤ cs.length by omega), show o + 1 + r.length = o + (r.length + 1) by omega]

theorem Del.mem {x : Ent} {L L' : List Ent} (h : Del x L L') : x ∈ L := by induction h <;> simp_all

theorem then_ret {N : (Nat → Value) → List Ent → Prop} {Q : Post} {ρ : Nat → Value} {L : List Ent} (h : Q .ret ρ L) : thenQ N Q .ret ρ L := h
theorem blockQ_ret {id : Nat} {Q : Post} {ρ : Nat → Value} {L : List Ent} (h : Q .ret ρ L) : blockQ id Q .ret ρ L := h
/-- What is no more needed. -/
theorem OW.drop {ops : Array Oper} {rest : List Oper} {Q : Post} {L' : List Ent} (hs : L'.Sublist L) (h : OW P n w0 E ops rest Q ρ L') : OW P n w0 E ops rest Q ρ L := fun a w hf hc => h a w hf (hc.sub hs)
theorem CW.drop {c : Code} {Q : Post} {L' : List Ent} (hs : L'.Sublist L) (h : CW P n w0 E c Q ρ L') : CW P n w0 E c Q ρ L := fun a w hf hc => h a w hf (hc.sub hs)
theorem blk_cells {b : Nat} {cs : List Value} {T : TypeId} {fz : Nat × Nat} (hm : Ent.blk b cs T fz ∈ L) : ∀ w, Cl w0 E L w → ∀ j u, cs[j]? = some u → w.cell? ((⟨b, 0, none⟩ : Addr).add j) = some u := by
  intro w hw j u hu
  rw [add_mk, Nat.zero_add, hw.cellAt hm]
  exact hu
/-- What every world of the class shows may be leant on. -/
theorem CW.know {c : Code} {Q : Post} (p : Prop) (hp : ∀ w, Cl w0 E L w → p) (h : p → CW P n w0 E c Q ρ L) : CW P n w0 E c Q ρ L :=
  fun a w hf hc => h (hp w hc) a w hf hc
theorem OW.know {ops : Array Oper} {rest : List Oper} {Q : Post} (p : Prop) (hp : ∀ w, Cl w0 E L w → p) (h : p → OW P n w0 E ops rest Q ρ L) : OW P n w0 E ops rest Q ρ L :=
  fun a w hf hc => h (hp w hc) a w hf hc

theorem Sl.isSlice {e : TypeId} {size k : Nat} {v : Value} {xs : List Value} {x : Ent} (h : Sl e size v k xs x) (hk : 0 < k) {w : World} (hw : x.ok w) : ∃ b cap, v = .slice (some ⟨b, 0, none⟩) k cap := by
  cases h with
  | @row a k cap xs =>
    cases a with
    | some b => exact ⟨b, cap, rfl⟩
    | none =>
      rcases hw.2 with ⟨_, h⟩ | ⟨g, cap', cur, hv, _⟩
      · omega
      · simp [rowV] at hv
  | @fz b k cap cs xs hl hkc hm hx => exact ⟨b, cap, rfl⟩
theorem Sl.at {e : TypeId} {size k b cap : Nat} {xs : List Value} {x : Ent} (h : Sl e size (.slice (some ⟨b, 0, none⟩) k cap) k xs x) {w : World} (hw : x.ok w) : ∀ j u, xs[j]? = some u → w.cell? ⟨b, j, none⟩ = some u := by
  intro j u hu
  generalize hv : Value.slice (Option.some ⟨b, 0, none⟩) k cap = v at h
  cases h with
  | @row a k cap xs =>
    cases a with
    | some b' =>
      simp only [rowV, Option.map_some, Value.slice.injEq, Option.some.injEq, Addr.mk.injEq] at hv
      obtain ⟨⟨rfl, _⟩, _⟩ := hv
      have := World.ownsRow.cells hw (g := b) rfl j u hu
      rwa [add_mk, Nat.zero_add] at this
    | none => simp [rowV] at hv
  | @fz b' k cap cs xs hl hkc hm hx =>
    simp only [Value.slice.injEq, Option.some.injEq, Addr.mk.injEq] at hv
    obtain ⟨⟨rfl, _⟩, _⟩ := hv
    have hlt : j < k * size := by
      subst hx
      rcases Nat.lt_or_ge j (k * size) with h | h
      · exact h
      · rw [List.getElem?_eq_none (by simp; omega)] at hu; cases hu
    subst hx
    rw [List.getElem?_take_of_lt hlt] at hu
    simp [World.cell?, show w.heap[b]? = Option.some (.cells cs.toArray e _) from hw, hu]
theorem Sl.len {e : TypeId} {size k : Nat} {v : Value} {xs : List Value} {x : Ent} (h : Sl e size v k xs x) : ∃ a cap, v = .slice a k cap := by
  cases h with
  | @row a k cap xs => exact ⟨_, _, rfl⟩
  | @fz b k cap cs xs hl hkc hm hx => exact ⟨_, _, rfl⟩

theorem Cl.pushO {w : World} (h : Cl w0 E L w) (d : Nat) (ob : Obj) (y : Ent) (hf : y.fp = some w.heap.size) (hy : y.ok { w with drawn := d, heap := w.heap.push ob }) :
    Cl w0 E (y :: L) { w with drawn := d, heap := w.heap.push ob } := by
  have hsame : ∀ k, k < w.heap.size → (w.heap.push ob)[k]? = w.heap[k]? := fun k hk => by rw [Array.getElem?_push, if_neg (by omega)]
  refine ⟨h.os, h.tape, h.output, by simp; have := h.size; omega, fun k hk hE => (hsame k (Nat.lt_of_lt_of_le hk h.size)).trans (h.old k hk hE), ?_, ?_, ?_⟩
  · intro x hx
    rcases List.mem_cons.1 hx with rfl | hx
    · exact hy
    · exact Ent.ok_of_same (h.own x hx) (fun b hb => hsame b (Ent.ok_lt (h.own x hx) hb))
  · intro x hx b hb
    rcases List.mem_cons.1 hx with rfl | hx
    · rw [hf] at hb; cases hb; exact .inl h.size
    · exact h.new x hx b hb
  · simp only [List.filterMap_cons, hf, List.nodup_cons]
    refine ⟨fun hm => ?_, h.nodup⟩
    obtain ⟨z, hz, hzb⟩ := List.mem_filterMap.1 hm
    exact absurd (Ent.ok_lt (h.own z hz) hzb) (Nat.lt_irrefl _)

/-- '[]byte(s)'. -/
theorem OW.bytes_of {ops : Array Oper} {rest : List Oper} {Q : Post} {S T e : TypeId} {x : Operand} {l : Bytes} {d : Tmp}
    (hw : Region.wanted o (yl n ops ρ) = true) (hd : o.dst = some d) (h : o.op = .convert S T x) (hS : tstr P S = true) (hT : tslice P T = some e) (he : P.underlying e = some (.int .u8)) (hx : ev n ρ x = .string (bs l)) (hm : l.length ≤ maxLen)
    (hn : ∀ v x, Sl e 1 v l.length (bc l) x → OW P n w0 E ops rest Q (upd ρ d v) (x :: L)) : OW P n w0 E ops (o :: rest) Q ρ L := by
  refine OW.m hw fun w hc => ?_
  rw [hd]
  have hr := run_bytes_of_string (P := P) w S T e (bs l) (und_str hS) (und_slice hT) he
  obtain ⟨cap, hcap⟩ : ∃ cap, cap = grownCap w (bs l).size 0 e := ⟨_, rfl⟩
  have hge := grownCap_ge w (bs l).size 0 e
  have hle := grownCap_le_maxLen w (bs l).size 0 e hm
  rw [← hcap] at hr hge hle
  have hrow : bytesRow (bs l) cap = (bc l ++ List.replicate (cap - l.length) (Value.int .u8 0)).toArray := by
    unfold bytesRow
    apply Array.ext'
    simp [bc, bs, ByteArray.size]
  have hsz : (bytesRow (bs l) cap).size = cap * 1 := by rw [hrow]; simp [bc_length]; rw [bs_size] at hge; omega
  rw [hsz] at hr
  rw [bs_size] at hge
  have hr' : (execOp (ev n ρ) o).run P w = .ok (.value (.slice (some ⟨w.heap.size, 0, none⟩) l.length cap)) { w with drawn := w.drawn + 1, heap := w.heap.push (.cells (bc l ++ List.replicate (cap - l.length) (Value.int .u8 0)).toArray e (cap * 1, cap * 1 + 1)) } := by
    rw [hrow] at hr
    simp only [execOp, h, hx, Sem.run_bind, hr, Result.andThen_ok, bs_size]
    rfl
  exact ⟨_, _, _, .inl hr', hc.pushO _ _ (.blk w.heap.size (bc l ++ List.replicate (cap - l.length) (Value.int .u8 0)) e (cap * 1, cap * 1 + 1)) rfl (by simp [Ent.ok]),
    hn _ _ (.fz (b := w.heap.size) (by simp; omega) hge hle (by rw [Nat.mul_one, List.take_left' (bc_length l)]))⟩

/-- An append onto a slice of ours. -/
theorem OW.append' {ops : Array Oper} {rest : List Oper} {Q : Post} {s x : Operand} {T e : TypeId} {v : Value} {k m c size bytes : Nat} {sa : Addr} {g : Bool} {xs news zs : List Value} {y : Ent} {L' : List Ent} {d : Tmp}
    (hw : Region.wanted o (yl n ops ρ) = true) (hd : o.dst = some d) (h : o.op = .call ⟨.builtin .append, #[s, x], #[T, T]⟩)
    (hs : ev n ρ s = v) (hsl : Sl e size v k xs y) (hx : ev n ρ x = .slice (some sa) m c) (ht : tslice P T = some e) (ti : tinfo P e = some (size, g, bytes)) (tz : tzero P e = some zs)
    (hdel : Del y L L') (hnews : ∀ w, Cl w0 E L w → ∀ j u, news[j]? = some u → w.cell? (sa.add j) = some u) (hl : news.length = m * size) (h1 : ∀ u ∈ news, u.oneCell' = true)
    (hz : zs.length = size) (h0 : 0 < size) (hm : k + m ≤ maxLen) (hb : (k + m) * bytes ≤ 140737488355328)
    (hn : ∀ v' y', Sl e size v' (k + m) (xs ++ news) y' → OW P n w0 E ops rest Q (upd ρ d v') (y' :: L')) : OW P n w0 E ops (o :: rest) Q ρ L := by
  cases hsl with
  | @row a k cap xs => exact OW.append hw hd h hs hx ht ti tz hdel hnews hl h1 hz h0 hm hb fun a' cap' => hn _ _ .row
  | @fz b k cap cs xs hlc hkc hmc hxs =>
    refine OW.m hw fun w hc => ?_
    rw [hd]
    have hc' := hc.perm hdel.perm
    have hg : w.heap[b]? = some (.cells cs.toArray e (cap * size, cap * size + 1)) := hc'.own (.blk b cs e (cap * size, cap * size + 1)) (by simp)
    obtain ⟨i, z, hi, hsz, hby, hzz, hzc⟩ := info_of ti tz
    have hu := und_slice ht
    subst hsz
    subst hby
    have hnews := hnews w hc
    have hcr : ∀ {v w'}, (Builtin.append_ #[T, T] o.type #[.slice (some ⟨b, 0, none⟩) k cap, .slice (some sa) m c]).run P w = .ok v w' → (execOp (ev n ρ) o).run P w = .ok (.value v) w' := by
      intro v w' hr
      simp [execOp, h, resolve, hs, hx, invoke, builtin, hr]
    have hxl : xs.length = k * i.size := by
      subst hxs
      rw [List.length_take, hlc]
      exact Nat.min_eq_left (Nat.mul_le_mul_right _ hkc)
    have hlen : (xs ++ news).length = (k + m) * i.size := by rw [List.length_append, hxl, hl, Nat.add_mul]
    have hold : ∀ j u, xs[j]? = some u → w.cell? ((⟨b, 0, none⟩ : Addr).add j) = some u := by
      intro j u hu
      rw [add_mk, Nat.zero_add]
      exact Sl.at (.fz hlc hkc hmc hxs) (x := .blk b cs e (cap * i.size, cap * i.size + 1)) hg j u hu
    by_cases hroom : k + m ≤ cap
    · have hfit : k * i.size + news.length ≤ cs.length := by rw [hl, hlc, ← Nat.add_mul]; exact Nat.mul_le_mul_right _ hroom
      have hr := run_append_room_cells (P := P) w T o.type e i hu hi b 0 k cap sa m c news hl hnews h1 hroom
        (fun j hj => by
          have : k * i.size + j < cs.length := by omega
          simp [World.cell?, hg, this])
        (fun j hj => by
          have : k * i.size + j < cap * i.size := by omega
          simp [World.frozen?, hg]; omega)
      simp only [Nat.zero_add] at hr
      obtain ⟨e1, e2, e3, e4⟩ := setCells_same b news (k * i.size) w
      refine ⟨_, _, _, .inl (hcr hr), ?_, hn _ (.blk b (spl cs (k * i.size) news) e (cap * i.size, cap * i.size + 1)) (.fz (by rw [spl_length hfit, hlc]) hroom hmc ?_)⟩
      · exact hc'.put .head rfl rfl e1 e2 e3 e4 (fun j hj => setCells_far _ _ j hj) (setCells_row news _ w cs hg hfit)
      · have : (cs.take (k * i.size) ++ news).length = (k + m) * i.size := by rw [hxs]; exact hlen
        unfold spl
        rw [List.take_left' this, hxs]
    · have hsmall : k + m ≤ 9223372036854775807 := by simp only [maxLen] at hm; omega
      have hr := run_append_grow (P := P) w T o.type e i z hu hi hzz ⟨b, 0, none⟩ k cap xs hxl hold sa m c news hl hnews (by omega) (by omega) (growslice_fits (by omega) hb)
      have hge := grownCap_ge w (k + m) cap e
      have hcm : grownCap w (k + m) cap e ≤ maxLen := grownCap_le_maxLen w (k + m) cap e hm
      refine ⟨_, _, _, .inl (hcr hr), (hc'.sub (List.sublist_cons_self _ _)).pushO (w.drawn + 1) _ (.row (some w.heap.size) (grownCap w (k + m) cap e) (k + m) e i.size (xs ++ news)) rfl ⟨hlen, .inr ⟨w.heap.size, _, xs.toArray ++ news.toArray ++ Builtin.zeroCells z.cells (grownCap w (k + m) cap e - (k + m)), rfl, Nat.zero_le _, by simp, hge, hcm, ?_, ?_⟩⟩, hn _ _ (Sl.row (a := some w.heap.size))⟩
      · simp only [Array.size_append, List.size_toArray, size_zeroCells, hzc, hz, hxl, hl, ← Nat.add_mul]
        congr 1
        omega
      · simp only [Array.toList_append, List.append_assoc]
        rw [← List.append_assoc, ← hlen]
        exact List.take_left
end
end Go.WL

namespace Go.WL
open Go.Spec
section
variable {P : Program} {n : Nat} {w0 : World} {E : List Nat} {o : Oper} {ρ : Nat → Value} {L : List Ent}

theorem run_part1 {e : TypeId} {s y : Nat} (ti : tinfo P e = some (s, false, y)) (l : Bytes) (j : Nat) (h : j < l.length) (w : World) : (part e (bc l).toArray j).run P w = .ok (U8 l[j]) w := by
  simp [part, run_isAgg ti, bc, h]

theorem eq_from (a b : Bytes) (m : Nat) : a.drop m = b.drop m ↔ (a.drop m == b.drop m) = true := by simp

theorem run_eq_arr0 {t e : TypeId} {k y d : Nat} (ht : P.underlying t = some (.array k e)) (hq : ∀ (x z : UInt8) (w : World), (Op.equalIn d e (U8 x) (U8 z)).run P w = .ok (decide (x = z)) w) (ti : tinfo P e = some (1, false, y)) (a b : Bytes) (ha : a.length = k) (hb : b.length = k) (w : World) :
    (Op.equalIn (d + 1) t (.agg (bc a).toArray) (.agg (bc b).toArray)).run P w = .ok (decide (a = b)) w := by
  simp only [Op.equalIn, Sem.run_bind, run_und ht, Result.andThen_ok, run_size ti]
  rw [Std.Legacy.Range.forIn_eq_forIn_range']
  simp only [Std.Legacy.Range.size, Nat.sub_zero, Nat.add_sub_cancel, Nat.div_one, Nat.mul_one]
  have key : ∀ (q m : Nat), m + q = k → a.take m = b.take m → ∀ w, ((forIn (List.range' m q) (none, PUnit.unit) fun i (r : Option Bool × PUnit) => do
      let x ← part e (bc a).toArray i
      let y ← part e (bc b).toArray i
      let __do_lift ← Op.equalIn d e x y
      if (!__do_lift) = true then pure (ForInStep.done (some false, PUnit.unit)) else pure (ForInStep.yield (none, PUnit.unit))) : Sem (Option Bool × PUnit)).run P w = .ok (if a = b then none else some false, PUnit.unit) w := by
    intro q
    induction q with
    | zero =>
      intro m hm hpre w
      have : a = b := by
        rw [← List.take_length (l := a), ← List.take_length (l := b), ha, hb, ← hm]
        simpa using hpre
      simp [this]
    | succ q ih =>
      intro m hm hpre w
      have h1 : m < a.length := by omega
      have h2 : m < b.length := by omega
      rw [List.range'_succ, List.forIn_cons]
      simp only [Sem.run_bind, run_part1 ti a m h1, run_part1 ti b m h2, Result.andThen_ok, hq]
      by_cases hx : a[m] = b[m]
      · simp only [hx, decide_true, Bool.not_true, Bool.false_eq_true, if_false, Sem.run_pure, Result.andThen_ok]
        exact ih (m + 1) (by omega) (by rw [List.take_succ_eq_append_getElem h1, List.take_succ_eq_append_getElem h2, hpre, hx]) w
      · have hne : a ≠ b := fun h => hx (by simp [h])
        simp only [hx, decide_false, Bool.not_false, if_true, Sem.run_pure, Result.andThen_ok, hne, if_false]
  rw [key k 0 (by omega) (by simp) w]
  by_cases hab : a = b <;> simp [hab]
theorem run_eq_arr {t e : TypeId} {k y : Nat} (ht : P.underlying t = some (.array k e)) (he : P.underlying e = some (.int .u8)) (ti : tinfo P e = some (1, false, y)) (a b : Bytes) (ha : a.length = k) (hb : b.length = k) (w : World) :
    (Op.equalIn 10000 t (.agg (bc a).toArray) (.agg (bc b).toArray)).run P w = .ok (decide (a = b)) w := by
  refine run_eq_arr0 (d := 9999) ht (fun x z w => ?_) ti a b ha hb w
  rw [run_equalIn_int w 9998 e .u8 .u8 _ _ he]
  congr 1
  by_cases h : x = z
  · simp [h]
  · have : ¬ ((x.toNat : Int) = (z.toNat : Int)) := fun h' => h (UInt8.toNat_inj.1 (Int.ofNat_inj.1 h'))
    simp only [h, decide_false]
    exact beq_eq_false_iff_ne.2 this

theorem toList_inj {a b : Hash} : a.toList = b.toList ↔ a = b := by
  constructor
  · intro h
    cases a with | mk a ha => cases b with | mk b hb => simp_all
  · intro h; rw [h]

variable {t t' e : TypeId} {y : Nat}
theorem yq_eql_H {x z : Operand} {a b : Hash} (h : o.op = .binOp .eql t x z t') (hx : ev n ρ x = HV a) (hz : ev n ρ z = HV b) (ht : tarr P t = some (32, e)) (he : P.underlying e = some (.int .u8)) (ti : tinfo P e = some (1, false, y)) (hg : P.eqGuardType P.depth t = false) :
    Yq P n w0 E o ρ L (.bool (decide (a = b))) :=
  yq_val fun w _ => by
    simp only [execOp, h, hx, hz, HV, Sem.run_bind, run_eqGuard_agg w _ _ _ _ _ _ hg, Result.andThen_ok, run_eql_struct, hc, run_eq_arr (und_arr ht) he ti a.toList b.toList (by simp) (by simp)]
    simp [toList_inj]
theorem yq_neq_H {x z : Operand} {a b : Hash} (h : o.op = .binOp .neq t x z t') (hx : ev n ρ x = HV a) (hz : ev n ρ z = HV b) (ht : tarr P t = some (32, e)) (he : P.underlying e = some (.int .u8)) (ti : tinfo P e = some (1, false, y)) (hg : P.eqGuardType P.depth t = false) :
    Yq P n w0 E o ρ L (.bool (decide (a ≠ b))) :=
  yq_val fun w _ => by
    simp only [execOp, h, hx, hz, HV, Sem.run_bind, run_eqGuard_agg w _ _ _ _ _ _ hg, Result.andThen_ok, run_neq_struct, hc, run_eq_arr (und_arr ht) he ti a.toList b.toList (by simp) (by simp)]
    simp [toList_inj]
/-- A result said by an equation. -/
theorem Yq.to {v v' : Value} (h : Yq P n w0 E o ρ L v) (e : v = v') : Yq P n w0 E o ρ L v' := e ▸ h

theorem OW.storeH {ops : Array Oper} {rest : List Oper} {Q : Post} {a x : Operand} {v : Hash} {b : Nat} {cs : List Value} {T Tb : TypeId} {L' : List Ent} {g : Bool} {by_ : Nat}
    (hw : Region.wanted o (yl n ops ρ) = true) (hd : o.dst = none) (h : o.op = .store T a x) (ha : ev n ρ a = .pointer (some ⟨b, 0, none⟩)) (hx : ev n ρ x = HV v)
    (ti : tinfo P T = some (32, g, by_)) (hp : Put (.blk b cs Tb (0, 0)) (.blk b (hc v) Tb (0, 0)) L L') (hl : cs.length = 32)
    (hn : OW P n w0 E ops rest Q ρ L') : OW P n w0 E ops (o :: rest) Q ρ L :=
  OW.store' (vs := hc v) hw hd h ha hx (by rw [hc_length]; exact ti) rfl (hc_one _) hp (by unfold spl; simp [List.drop_eq_nil_of_le, hl]) (by rw [hc_length, hl]; exact Nat.le_refl _) hn
theorem rv_hash {p b : Nat} {T Tb : TypeId} {fz : Nat × Nat} {v : Hash} (hp : p < n) (ha : ρ p = .pointer (some ⟨b, 0, none⟩)) (ti : tinfo P T = some (32, true, y)) (hm : Ent.blk b (hc v) Tb fz ∈ L) : RVal P n w0 E ρ L (.cell p T) (HV v) :=
  ⟨hp, _, ha, fun w hw => run_load_agg (by rw [hc_length]; exact ti) fun j u hu => by rw [hw.cellAt hm]; simpa using hu⟩
theorem yq_loadH {T Tb : TypeId} {fz : Nat × Nat} {a : Operand} {b : Nat} {v : Hash} (h : o.op = .load T a) (ha : ev n ρ a = .pointer (some ⟨b, 0, none⟩)) (ti : tinfo P T = some (32, true, y))
    (hm : Ent.blk b (hc v) Tb fz ∈ L) : Yq P n w0 E o ρ L (HV v) :=
  yq_loadW (cs := hc v) h ha (by rw [hc_length]; exact ti) hm
/-- The whole of an array as a slice. -/
theorem yq_slice_arr_all {T e : TypeId} {x : Operand} {b k s : Nat} {g : Bool} (ho : o.op = .slice T x none none none) (hx : ev n ρ x = .pointer (some ⟨b, 0, none⟩)) (ht : tarr P T = some (k + 1, e)) (ti : tinfo P e = some (s, g, y)) :
    Yq P n w0 E o ρ L (.slice (some ⟨b, 0, none⟩) (k + 1) (k + 1)) := by
  have := yq_slice_arr (P := P) (w0 := w0) (E := E) (L := L) (l := 0) (h := k + 1) ho hx ht ti rfl rfl (Nat.zero_le _) (Nat.le_refl _)
  rw [if_neg (by omega)] at this
  simpa using this

theorem yq_makeFunc {f : Fn} {xs cs : List Operand} {vs ws : List Value} (h : o.op = .makeFunc f xs.toArray cs.toArray) (hx : xs.map (ev n ρ) = vs) (hc : cs.map (ev n ρ) = ws) : Yq P n w0 E o ρ L (.func f vs.toArray ws.toArray) :=
  yq_val fun w _ => by
    subst hx; subst hc
    simp [execOp, h, Instr.makeFunc]
theorem know_row {a : Option Nat} {cap k s : Nat} {T : TypeId} {xs : List Value} (hm : Ent.row a cap k T s xs ∈ L) (hk : 0 < k) : ∀ w, Cl w0 E L w → ∃ g, a = some g := by
  intro w hw
  have h : (Ent.row a cap k T s xs).ok w := hw.own _ hm
  cases a with
  | some g => exact ⟨g, rfl⟩
  | none =>
    rcases h.2 with ⟨_, h2⟩ | ⟨g, _, _, hv, _⟩
    · omega
    · simp [rowV] at hv
theorem row_cells {g cap k s : Nat} {T : TypeId} {xs : List Value} (hm : Ent.row (some g) cap k T s xs ∈ L) : ∀ w, Cl w0 E L w → ∀ j u, xs[j]? = some u → w.cell? ((⟨g, 0, none⟩ : Addr).add j) = some u :=
  fun w hw j u hu => World.ownsRow.cells (hw.own _ hm) (g := g) rfl j u hu
/-! ### slices of hashes -/
/-- A value that reads as hashes. -/
def HsAt (w : World) (v : Value) (l : List Hash) : Prop :=
  ∃ a cap, v = .slice a l.length cap ∧ l.length ≤ cap ∧ (l = [] ∨ ∃ b off, a = some ⟨b, off, none⟩ ∧ ∀ j u, (l.flatMap hc)[j]? = some u → w.cell? ⟨b, off + j, none⟩ = some u)
theorem flat_length (l : List Hash) : (l.flatMap hc).length = 32 * l.length := by
  induction l with
  | nil => rfl
  | cons a l ih => rw [List.flatMap_cons, List.length_append, ih, hc_length, List.length_cons]; omega
theorem flat_drop (l : List Hash) (k : Nat) : (l.flatMap hc).drop (32 * k) = (l.drop k).flatMap hc := by
  induction k generalizing l with
  | zero => simp
  | succ k ih =>
    cases l with
    | nil => simp
    | cons a l =>
      rw [List.flatMap_cons, show 32 * (k + 1) = (hc a).length + 32 * k by rw [hc_length]; omega, ← List.drop_drop, List.drop_left, ih, List.drop_succ_cons]
theorem flat_take (l : List Hash) (k : Nat) : (l.flatMap hc).take (32 * k) = (l.take k).flatMap hc := by
  induction k generalizing l with
  | zero => simp
  | succ k ih =>
    cases l with
    | nil => simp
    | cons a l =>
      rw [List.flatMap_cons, show 32 * (k + 1) = (hc a).length + 32 * k by rw [hc_length]; omega, List.take_length_add_append, ih, List.take_succ_cons, List.flatMap_cons]
theorem flat_at (l : List Hash) (k j : Nat) (hk : k < l.length) (hj : j < 32) : (l.flatMap hc)[32 * k + j]? = (hc l[k])[j]? := by
  rw [← List.getElem?_drop, flat_drop, List.drop_eq_getElem_cons hk, List.flatMap_cons, List.getElem?_append_left (by rw [hc_length]; exact hj)]
theorem HsAt.mono {v : Value} {l : List Hash} {w w' : World} {L' : List Ent} (h : HsAt w v l) (hc' : Cl w [] L' w') : HsAt w' v l := by
  obtain ⟨a, cap, rfl, hle, h⟩ := h
  refine ⟨a, cap, rfl, hle, ?_⟩
  rcases h with h | ⟨b, off, rfl, hcell⟩
  · exact .inl h
  · by_cases hl : l = []
    · exact .inl hl
    · refine .inr ⟨b, off, rfl, fun j u hu => ?_⟩
      have h1 := hcell j u hu
      rw [hc'.cell ?_ (by simp)]
      · exact h1
      · show b < w.heap.size
        by_cases hb : b < w.heap.size
        · exact hb
        · simp [World.cell?, Array.getElem?_eq_none (Nat.le_of_not_lt hb)] at h1
theorem HsAt.len {v : Value} {l : List Hash} {w : World} (h : HsAt w v l) : ∃ a cap, v = .slice a l.length cap := by
  obtain ⟨a, cap, h, _⟩ := h; exact ⟨a, cap, h⟩
/-- One of them. -/
theorem HsAt.at {w : World} {b off len cap : Nat} {l : List Hash} (h : HsAt w (.slice (some ⟨b, off, none⟩) len cap) l) (i : Nat) (hi : i < l.length) : ∀ j u, (hc l[i])[j]? = some u → w.cell? ⟨b, (off + i * 32) + j, none⟩ = some u := by
  intro j u hu
  obtain ⟨a, cap', hv, hle, h⟩ := h
  rcases h with h | ⟨b', off', rfl, hcell⟩
  · subst h; cases hi
  · simp only [Value.slice.injEq, Option.some.injEq, Addr.mk.injEq] at hv
    obtain ⟨⟨rfl, rfl, _⟩, _⟩ := hv
    have hj : j < 32 := by
      rcases Nat.lt_or_ge j 32 with h | h
      · exact h
      · rw [List.getElem?_eq_none (by rw [hc_length]; exact h)] at hu; cases hu
    have := hcell (32 * i + j) u (by rw [flat_at l i j hi hj]; exact hu)
    rwa [show off + i * 32 + j = off + (32 * i + j) by omega]
/-- One that is not none has a place. -/
theorem HsAt.place {w : World} {v : Value} {l : List Hash} (h : HsAt w v l) (hl : l ≠ []) : ∃ b off cap, v = .slice (some ⟨b, off, none⟩) l.length cap ∧ l.length ≤ cap := by
  obtain ⟨a, cap, rfl, hle, h⟩ := h
  rcases h with h | ⟨b, off, rfl, _⟩
  · exact absurd h hl
  · exact ⟨b, off, cap, rfl, hle⟩
theorem HsAt.slice {w : World} {b off cap : Nat} {l : List Hash} (h : HsAt w (.slice (some ⟨b, off, none⟩) l.length cap) l) (i j : Nat) (hij : i ≤ j) (hj : j ≤ l.length) :
    HsAt w (.slice (some ⟨b, if cap = i then off else off + i * 32, none⟩) (j - i) (cap - i)) ((l.drop i).take (j - i)) := by
  obtain ⟨a, cap', hv, hle, h⟩ := h
  simp only [Value.slice.injEq, true_and] at hv
  obtain ⟨rfl, rfl⟩ := hv
  have hlen : ((l.drop i).take (j - i)).length = j - i := by simp; omega
  refine ⟨some ⟨b, if cap = i then off else off + i * 32, none⟩, cap - i, by rw [hlen], by rw [hlen]; omega, ?_⟩
  by_cases hlt : i = j
  · subst hlt; exact .inl (by simp)
  · rw [if_neg (by omega)]
    refine .inr ⟨b, off + i * 32, rfl, fun q u hu => ?_⟩
    rcases h with h | ⟨b', off', he, hcell⟩
    · subst h; simp at hj; omega
    · simp only [Option.some.injEq, Addr.mk.injEq] at he
      obtain ⟨rfl, rfl, _⟩ := he
      rw [← flat_take, ← flat_drop] at hu
      have hq : q < 32 * (j - i) := by
        rcases Nat.lt_or_ge q (32 * (j - i)) with h | h
        · exact h
        · rw [List.getElem?_eq_none (by simp; omega)] at hu; cases hu
      rw [List.getElem?_take_of_lt hq, List.getElem?_drop] at hu
      have := hcell _ u hu
      rwa [show off + i * 32 + q = off + (32 * i + q) by omega]
/-- A row of hashes of ours. -/
theorem HsAt.row {w : World} {a : Option Nat} {cap k : Nat} {T : TypeId} {l : List Hash} (hk : k = l.length) (h : (Ent.row a cap k T 32 (l.flatMap hc)).ok w) : HsAt w (rowV a k cap) l := by
  subst hk
  cases a with
  | none =>
    rcases h.2 with ⟨hv, h2⟩ | ⟨g, cap', cur, hv, _⟩
    · exact ⟨none, cap, rfl, by omega, .inl (List.eq_nil_of_length_eq_zero h2)⟩
    · simp [rowV] at hv
  | some b =>
    rcases h.2 with ⟨hv, h2⟩ | ⟨g, cap', cur, hv, _, _, hle, _⟩
    · simp [rowV] at hv
    · simp only [rowV, Option.map_some, Value.slice.injEq] at hv
      obtain ⟨_, _, rfl⟩ := hv
      refine ⟨some ⟨b, 0, none⟩, cap, rfl, hle, .inr ⟨b, 0, rfl, fun j u hu => ?_⟩⟩
      have := World.ownsRow.cells h (g := b) rfl j u hu
      rwa [add_mk] at this
/-- A block of hashes of ours. -/
theorem HsAt.blk {w : World} {b : Nat} {cap : Nat} {T : TypeId} {fz : Nat × Nat} {l : List Hash} {cs : List Value} (hcap : l.length ≤ cap) (hpre : ∀ (j : Nat) (u : Value), (l.flatMap hc)[j]? = some u → cs[j]? = some u) (h : (Ent.blk b cs T fz).ok w) : HsAt w (.slice (some ⟨b, 0, none⟩) l.length cap) l := by
  refine ⟨_, cap, rfl, hcap, .inr ⟨b, 0, rfl, fun j u hu => ?_⟩⟩
  have h' : w.heap[b]? = some (.cells cs.toArray T fz) := h
  simp [World.cell?, h', hpre j u hu]
theorem Cl.keep {w : World} (h : Cl w0 [] L w) {p : Addr} {u : Value} (hu : w0.cell? p = some u) : w.cell? p = some u := by
  rw [h.cell ?_ (by simp)]
  · exact hu
  · by_cases hb : p.block < w0.heap.size
    · exact hb
    · simp [World.cell?, Array.getElem?_eq_none (Nat.le_of_not_lt hb)] at hu
/-- A hash of a slice of hashes. -/
theorem yq_load_hs {T : TypeId} {a : Operand} {b off len cap i : Nat} {l : List Hash} {v : Hash} (h : o.op = .load T a) (ha : ev n ρ a = .pointer (some ⟨b, off + i * 32, none⟩)) (ti : tinfo P T = some (32, true, y))
    (hs : ∀ w, Cl w0 E L w → HsAt w (.slice (some ⟨b, off, none⟩) len cap) l) (hv : l[i]? = some v) : Yq P n w0 E o ρ L (HV v) := by
  have hi : i < l.length := by
    rcases Nat.lt_or_ge i l.length with h | h
    · exact h
    · rw [List.getElem?_eq_none h] at hv; cases hv
  have hv' : l[i] = v := by rw [List.getElem?_eq_getElem hi] at hv; exact Option.some.inj hv
  subst hv'
  exact yq_load_c h ha (fun w hw => run_load_agg (by rw [hc_length]; exact ti) ((hs w hw).at i hi))
theorem at_of_lt {l : List Hash} {i : Nat} (h : i < l.length) : l[i]? = some (l.getD i zeroHash) := by simp [List.getD_eq_getElem?_getD, h]
end
end Go.WL

namespace Go.WL
open Go.Spec

/-- Behind a call to which blocks of ours were lent, that left new things L1. -/
theorem Cl.callE {w0 w w' : World} {E E' : List Nat} {L L1 Lk : List Ent} (h : Cl w0 E L w) (h1 : Cl w E' L1 w') (hE : ∀ b ∈ E', ∃ x ∈ L, x.fp = some b) (hk : Lk.Sublist L) (hd : ∀ x ∈ Lk, ∀ b, x.fp = some b → b ∉ E') : Cl w0 E (L1 ++ Lk) w' := by
  have hlk := h.sub hk
  refine ⟨h1.os.trans h.os, h1.tape.trans h.tape, h1.output.trans h.output, Nat.le_trans h.size h1.size, fun k hk0 hkE => ?_, ?_, ?_, ?_⟩
  · have hk' : k ∉ E' := fun hm => by
      obtain ⟨x, hx, hxk⟩ := hE k hm
      rcases h.new x hx k hxk with hn | hn
      · omega
      · exact hkE hn
    exact (h1.old k (Nat.lt_of_lt_of_le hk0 h.size) hk').trans (h.old k hk0 hkE)
  · intro x hx
    rcases List.mem_append.1 hx with hx | hx
    · exact h1.own x hx
    · exact Ent.ok_of_same (hlk.own x hx) (fun b hb => h1.old b (Ent.ok_lt (hlk.own x hx) hb) (hd x hx b hb))
  · intro x hx b hb
    rcases List.mem_append.1 hx with hx | hx
    · rcases h1.new x hx b hb with hn | hn
      · exact .inl (Nat.le_trans h.size hn)
      · obtain ⟨y, hy, hyb⟩ := hE b hn
        exact h.new y hy b hyb
    · exact hlk.new x hx b hb
  · rw [List.filterMap_append, List.nodup_append]
    refine ⟨h1.nodup, hlk.nodup, ?_⟩
    intro b hb1 c hc hbc
    subst hbc
    obtain ⟨x, hx, hxb⟩ := List.mem_filterMap.1 hb1
    obtain ⟨y, hy, hyb⟩ := List.mem_filterMap.1 hc
    rcases h1.new x hx b hxb with hn | hn
    · have := Ent.ok_lt (hlk.own y hy) hyb
      omega
    · exact hd y hy b hyb hn

section
variable {P : Program} {n : Nat} {w0 : World} {E : List Nat} {o : Oper} {ρ : Nat → Value} {L : List Ent}

/-- A call to which blocks of ours are lent. -/
theorem OW.calle {ops : Array Oper} {rest : List Oper} {Q : Post} {c : Operand} {xs : List Operand} {ats : Array TypeId} {f : FuncId} {vs : List Value} {d : Tmp} {K : Value → List Ent → Prop} (E' : List Nat) (Lk : List Ent)
    (hw : Region.wanted o (yl n ops ρ) = true) (hd : o.dst = some d) (h : o.op = .call ⟨.value c, xs.toArray, ats⟩)
    (hc : ev n ρ c = .func (.func f) #[] #[]) (hx : Args n ρ xs vs) (he : ∀ args w, (callFunc f args).run P w = .ok (.enter f args) w)
    (hE : ∀ b ∈ E', ∃ x ∈ L, x.fp = some b) (hk' : Lk.Sublist L) (hdj : ∀ w, Cl w0 E L w → ∀ x ∈ Lk, ∀ b, x.fp = some b → b ∉ E')
    (hk : ∀ w, Cl w0 E L w → Calls P f vs.toArray w fun e w' => ∃ v L1, e = .returned v ∧ Cl w E' L1 w' ∧ K v L1)
    (hn : ∀ v L1, K v L1 → OW P n w0 E ops rest Q (upd ρ d v) (L1 ++ Lk)) : OW P n w0 E ops (o :: rest) Q ρ L := by
  have hr : ∀ w, (execOp (ev n ρ) o).run P w = .ok (.enter f vs.toArray) w := fun w => by
    have := run_call (P := P) (cap := []) h hc hx he w
    rwa [List.append_nil] at this
  exact OW.call hw hd hr fun w hw => (hk w hw).mono fun e w' ⟨v, L1, h1, h2, h3⟩ => ⟨v, L1 ++ Lk, h1, hw.callE h2 hE hk' (hdj w hw), hn v L1 h3⟩
/-- What a class lends: entries apart from those that are kept. -/
theorem lend_apart {A Lk : List Ent} {w : World} (h : Cl w0 E (A ++ Lk) w) {E' : List Nat} (hE : ∀ b ∈ E', ∃ x ∈ A, x.fp = some b) : ∀ x ∈ Lk, ∀ b, x.fp = some b → b ∉ E' := by
  intro x hx b hb hm
  obtain ⟨y, hy, hyb⟩ := hE b hm
  have := h.nodup
  rw [List.filterMap_append, List.nodup_append] at this
  exact this.2.2 b (List.mem_filterMap.2 ⟨y, hy, hyb⟩) b (List.mem_filterMap.2 ⟨x, hx, hb⟩) rfl

theorem frozen_out {w : World} {b : Nat} {cs : Array Value} {T : TypeId} {fz : Nat × Nat} (hb : w.heap[b]? = some (.cells cs T fz)) (j : Nat) (h : j < fz.1 ∨ fz.2 ≤ j) : w.frozen? ⟨b, j, none⟩ = false := by
  obtain ⟨lo, hi⟩ := fz
  simp only [World.frozen?, hb, Bool.and_eq_false_iff, decide_eq_false_iff_not]
  simp only at h
  rcases h with h | h
  · left; omega
  · right; omega
theorem run_storeVar_cells {T : TypeId} {g : Bool} {by_ b off : Nat} {vs : List Value} {v : Value} {w : World} (ti : tinfo P T = some (vs.length, g, by_)) (hv : v.cells = vs.toArray) (h1 : ∀ u ∈ vs, u.oneCell' = true)
    (hc : ∀ j, j < vs.length → (w.cell? ⟨b, off + j, none⟩).isSome = true) (hf : ∀ j, j < vs.length → w.frozen? ⟨b, off + j, none⟩ = false) : (storeVar T ⟨b, off, none⟩ v).run P w = .ok () (w.setCells b off vs) := by
  have hst := run_storeCells_cells (P := P) b off vs 0 w (by simpa using hc) (by simpa using hf) h1
  simp only [storeVar, Sem.run_bind, run_size ti, Result.andThen_ok, hv, List.size_toArray, ne_eq, not_true, if_false]
  simp only [Nat.add_zero] at hst
  simp only [Sem.run_pure, Result.andThen_ok, hst]

/-- A store into a row of ours. -/
theorem OW.storeR {ops : Array Oper} {rest : List Oper} {Q : Post} {a x : Operand} {v : Value} {b off cap k size : Nat} {xs xs' vs : List Value} {T e : TypeId} {L' : List Ent} {g : Bool} {by_ : Nat}
    (hw : Region.wanted o (yl n ops ρ) = true) (hd : o.dst = none) (h : o.op = .store T a x) (ha : ev n ρ a = .pointer (some ⟨b, off, none⟩)) (hx : ev n ρ x = v)
    (ti : tinfo P T = some (vs.length, g, by_)) (hv : v.cells = vs.toArray) (h1 : ∀ u ∈ vs, u.oneCell' = true)
    (hp : Put (.row (some b) cap k e size xs) (.row (some b) cap k e size xs') L L') (hcs : spl xs off vs = xs') (hf : off + vs.length ≤ xs.length)
    (hn : OW P n w0 E ops rest Q ρ L') : OW P n w0 E ops (o :: rest) Q ρ L := by
  subst hcs
  refine OW.m hw fun w hc => ?_
  have hb := hc.own _ hp.mem
  obtain ⟨hlen, hrow⟩ : w.ownsRow 0 e size (rowV (some b) k cap) k xs := hb
  rcases hrow with ⟨h', _⟩ | ⟨g', cap', cur, h', _, hg, hnc, hcm, hcz, htake⟩
  · simp [rowV] at h'
  · simp only [rowV, Option.map_some, Value.slice.injEq, Option.some.injEq, Addr.mk.injEq, and_true, true_and] at h'
    obtain ⟨rfl, rfl⟩ := h'
    have hk : k * size ≤ cur.size := by rw [hcz]; exact Nat.mul_le_mul_right _ hnc
    have hst : (storeVar T ⟨b, off, none⟩ v).run P w = .ok () (w.setCells b off vs) :=
      run_storeVar_cells ti hv h1 (fun j hj => by
        rw [cell_of_row w b (off + j) cur e (0, 0) hg, Array.getElem?_eq_getElem (by omega)]; rfl) (fun j hj => frozen_out hg _ (.inr (Nat.zero_le _)))
    have e1 : (execOp (ev n ρ) o).run P w = .ok .skip (w.setCells b off vs) := by
      have : (execOp (ev n ρ) o).run P w = ((storeVar T ⟨b, off, none⟩ v).run P w).andThen fun _ w' => .ok .skip w' := by
        simp [execOp, h, ha, hx, Instr.storeAt, Instr.sureAddr]
      rw [this, hst]; rfl
    obtain ⟨s1, s2, s3, s4⟩ := setCells_same b vs off w
    have hset : (w.setCells b off vs).heap[b]? = some (.cells (spl cur.toList off vs).toArray e (0, 0)) := setCells_row vs off w cur.toList (by simpa using hg) (by simp; omega)
    refine ⟨undef, L', w.setCells b off vs, .inr ⟨e1, rfl⟩, hc.put hp rfl rfl s1 s2 s3 s4 (fun k' hk' => setCells_far vs off k' hk') ?_, by rw [hd]; exact hn⟩
    refine ⟨by rw [spl_length hf]; exact hlen, .inr ⟨b, cap, _, rfl, Nat.zero_le _, hset, hnc, hcm, by simp [spl_length (show off + vs.length ≤ cur.toList.length by simp; omega), hcz], ?_⟩⟩
    subst htake
    have hl2 : off + vs.length ≤ k * size := by simp at hf; omega
    unfold spl
    rw [List.toList_toArray, List.append_assoc, List.take_append, List.take_append, List.take_take, List.length_take, List.drop_take]
    rw [Nat.min_eq_right (show off ≤ k * size by omega), Nat.min_eq_left (show off ≤ cur.toList.length by simp; omega), List.take_of_length_le (show vs.length ≤ k * size - off by omega), List.take_take, Nat.min_eq_left (show off ≤ k * size by omega), List.append_assoc]
    congr 3
    omega
/-- A store into a block of ours, whatever is frozen of it elsewhere. -/
theorem OW.storeF {ops : Array Oper} {rest : List Oper} {Q : Post} {a x : Operand} {v : Value} {b off : Nat} {cs cs' vs : List Value} {T e : TypeId} {fz : Nat × Nat} {L' : List Ent} {g : Bool} {by_ : Nat}
    (hw : Region.wanted o (yl n ops ρ) = true) (hd : o.dst = none) (h : o.op = .store T a x) (ha : ev n ρ a = .pointer (some ⟨b, off, none⟩)) (hx : ev n ρ x = v)
    (ti : tinfo P T = some (vs.length, g, by_)) (hv : v.cells = vs.toArray) (h1 : ∀ u ∈ vs, u.oneCell' = true)
    (hp : Put (.blk b cs e fz) (.blk b cs' e fz) L L') (hcs : spl cs off vs = cs') (hf : off + vs.length ≤ cs.length) (hz : off + vs.length ≤ fz.1 ∨ fz.2 ≤ off)
    (hn : OW P n w0 E ops rest Q ρ L') : OW P n w0 E ops (o :: rest) Q ρ L := by
  subst hcs
  refine OW.m hw fun w hc => ?_
  have hg : w.heap[b]? = some (.cells cs.toArray e fz) := hc.own _ hp.mem
  have hst : (storeVar T ⟨b, off, none⟩ v).run P w = .ok () (w.setCells b off vs) :=
    run_storeVar_cells ti hv h1 (fun j hj => by
      rw [cell_of_row w b (off + j) _ e fz hg, Array.getElem?_eq_getElem (by simp; omega)]; rfl) (fun j hj => frozen_out hg _ (by omega))
  have e1 : (execOp (ev n ρ) o).run P w = .ok .skip (w.setCells b off vs) := by
    have : (execOp (ev n ρ) o).run P w = ((storeVar T ⟨b, off, none⟩ v).run P w).andThen fun _ w' => .ok .skip w' := by
      simp [execOp, h, ha, hx, Instr.storeAt, Instr.sureAddr]
    rw [this, hst]; rfl
  obtain ⟨s1, s2, s3, s4⟩ := setCells_same b vs off w
  exact ⟨undef, L', w.setCells b off vs, .inr ⟨e1, rfl⟩, hc.put hp rfl rfl s1 s2 s3 s4 (fun k' hk' => setCells_far vs off k' hk') (setCells_row vs off w cs hg hf), by rw [hd]; exact hn⟩
/-- What a slice of ours becomes by a store. -/
def Ent.st (off : Nat) (vs : List Value) : Ent → Ent
  | .blk b cs T fz => .blk b (spl cs off vs) T fz
  | .row a cap n T size xs => .row a cap n T size (spl xs off vs)
theorem spl_take {cs vs : List Value} {off m : Nat} (h : off + vs.length ≤ m) (hm : m ≤ cs.length) : (spl cs off vs).take m = spl (cs.take m) off vs := by
  unfold spl
  rw [List.append_assoc, List.take_append, List.take_append, List.take_take, List.length_take, List.drop_take]
  rw [Nat.min_eq_right (show off ≤ m by omega), Nat.min_eq_left (show off ≤ cs.length by omega), List.take_of_length_le (show vs.length ≤ m - off by omega), List.take_take, Nat.min_eq_left (show off ≤ m by omega), List.append_assoc]
  congr 3
  omega
theorem OW.storeSl {ops : Array Oper} {rest : List Oper} {Q : Post} {a x : Operand} {v sv : Value} {b off cap k size : Nat} {xs xs' vs : List Value} {T e : TypeId} {y : Ent} {L' : List Ent} {g : Bool} {by_ : Nat}
    (hw : Region.wanted o (yl n ops ρ) = true) (hd : o.dst = none) (h : o.op = .store T a x) (ha : ev n ρ a = .pointer (some ⟨b, off, none⟩)) (hx : ev n ρ x = v)
    (ti : tinfo P T = some (vs.length, g, by_)) (hv : v.cells = vs.toArray) (h1 : ∀ u ∈ vs, u.oneCell' = true)
    (hsl : Sl e size (.slice (some ⟨b, 0, none⟩) k cap) k xs y) (hxs : xs.length = k * size) (hp : Put y (y.st off vs) L L') (hcs : spl xs off vs = xs') (hf : off + vs.length ≤ xs.length)
    (hn : Sl e size (.slice (some ⟨b, 0, none⟩) k cap) k xs' (y.st off vs) → OW P n w0 E ops rest Q ρ L') : OW P n w0 E ops (o :: rest) Q ρ L := by
  subst hcs
  generalize hsv : Value.slice (some ⟨b, 0, none⟩) k cap = sv' at hsl hn
  cases hsl with
  | @row a' k' cap' xs' =>
    cases a' with
    | none => simp [rowV] at hsv
    | some g' =>
      simp only [rowV, Option.map_some, Value.slice.injEq, Option.some.injEq, Addr.mk.injEq, and_true, true_and] at hsv
      obtain ⟨rfl, rfl⟩ := hsv
      exact OW.storeR hw hd h ha hx ti hv h1 hp rfl hf (hn .row)
  | @fz b' k' cap' cs xs' hl hkc hm hx' =>
    simp only [Value.slice.injEq, Option.some.injEq, Addr.mk.injEq, and_true, true_and] at hsv
    obtain ⟨rfl, rfl⟩ := hsv
    have hkl : k * size ≤ cs.length := by rw [hl]; exact Nat.mul_le_mul_right _ hkc
    have hfl : off + vs.length ≤ cs.length := by omega
    refine OW.storeF hw hd h ha hx ti hv h1 hp rfl hfl (.inl (by show _ ≤ cap * size; omega)) (hn (.fz (by rw [spl_length hfl]; exact hl) hkc hm ?_))
    rw [spl_take (by omega) hkl, hx']
end
end Go.WL

namespace Go.WL
open Go.Spec
section
variable {P : Program} {n : Nat} {w0 : World} {E : List Nat} {ops : Array Oper}

/-- The same frame but for some slots. -/
def Any : List Nat → (Nat → Value) → (Nat → Value) → Prop
  | [], ρ, ρ' => ρ' = ρ
  | t :: ts, ρ, ρ' => ∃ x, Any ts (upd ρ t x) ρ'
theorem any_n {ρ : Nat → Value} : Any [] ρ ρ := rfl
theorem any_c {t : Nat} {ts : List Nat} {ρ ρ' : Nat → Value} {x : Value} (h : Any ts (upd ρ t x) ρ') : Any (t :: ts) ρ ρ' := ⟨x, h⟩

theorem wpList_of_quiet {C : World → Prop} {M : Act → Prop} {Q : Exit → Act → World → Prop} {l2 : List Oper} : ∀ (l1 : List Oper) (a : Act) (w : World), wpQuiet P ops C M l1 a → C w → (∀ a' w', M a' → C w' → wpList P ops Q l2 a' w') → wpList P ops Q (l1 ++ l2) a w
  | [], a, w, h, hC, hn => hn a w h hC
  | o :: r, a, w, h, hC, hn => by
    unfold wpQuiet at h
    rw [List.cons_append]
    refine wpList_step fun K hK => ?_
    split
    · rename_i hw
      rw [if_pos hw] at h
      obtain ⟨v, hv, hx⟩ := h
      have h1 : Oper.quietUpon P C w v ((execOp a.eval o).run P w) := hv w hC
      have hk : ∀ w', C w' → K (a.put o.dst v) w' := fun w' hC' => hK _ _ (wpList_of_quiet r _ w' hx hC' hn)
      unfold Oper.wp
      generalize (execOp a.eval o).run P w = res at h1 ⊢
      cases res with
      | ok x w' =>
        cases x <;> simp only [Oper.quietUpon] at h1 <;> simp only [Oper.upon]
        case value u => obtain ⟨rfl, rfl⟩ := h1; exact hk _ hC
        case skip => obtain ⟨rfl, rfl⟩ := h1; exact hk _ hC
        case enter f args =>
          obtain ⟨rfl, hcall⟩ := h1
          exact hcall.mono fun e w'' ⟨he, hc'⟩ => by subst he; exact hk _ hc'
      | halt x w' => simp only [Oper.quietUpon] at h1
    · rename_i hw
      rw [if_neg hw] at h
      exact hK _ _ (wpList_of_quiet r _ w h hC hn)
theorem wpQuiet_append {C : World → Prop} {M Q : Act → Prop} {l2 : List Oper} (hn : ∀ a', M a' → wpQuiet P ops C Q l2 a') : ∀ (l1 : List Oper) (a : Act), wpQuiet P ops C M l1 a → wpQuiet P ops C Q (l1 ++ l2) a
  | [], a, h => hn a h
  | o :: r, a, h => by
    rw [List.cons_append]
    unfold wpQuiet at h ⊢
    split
    · rename_i hw
      rw [if_pos hw] at h
      exact Oper.quiet_mono (wpQuiet_append hn r) h
    · rename_i hw
      rw [if_neg hw] at h
      exact wpQuiet_append hn r _ h

theorem OW.quietly {l : List Oper} {Q : Post} {ρ : Nat → Value} {L : List Ent} (k : Nat) {M : (Nat → Value) → Prop} (hs : QW P n w0 E ops (l.take k) M L ρ) (hn : ∀ ρ', M ρ' → OW P n w0 E ops (l.drop k) Q ρ' L) : OW P n w0 E ops l Q ρ L := by
  intro a w hf hc
  have := wpList_of_quiet (P := P) (ops := ops) (Q := up n w0 E Q) (l2 := l.drop k) _ a w (hs a hf) hc (fun a' w' ⟨ρ', h1, h2⟩ hc' => hn ρ' h2 a' w' h1 hc')
  rwa [List.take_append_drop] at this
theorem QW.quietly {l : List Oper} {K : (Nat → Value) → Prop} {ρ : Nat → Value} {L : List Ent} (k : Nat) {M : (Nat → Value) → Prop} (hs : QW P n w0 E ops (l.take k) M L ρ) (hn : ∀ ρ', M ρ' → QW P n w0 E ops (l.drop k) K L ρ') : QW P n w0 E ops l K L ρ := by
  intro a hf
  have := wpQuiet_append (P := P) (ops := ops) (C := Cl w0 E L) (M := fun a' => ∃ ρ', FR n ρ' a' ∧ M ρ') (Q := fun a' => ∃ ρ', FR n ρ' a' ∧ K ρ') (l2 := l.drop k) (fun a' ⟨ρ', h1, h2⟩ => hn ρ' h2 a' h1) _ a (hs a hf)
  rwa [List.take_append_drop] at this

/-- What a test that may not be reached leaves. -/
def SegM (ts : List Nat) (d : Nat) (R : Prop) (ρ ρ' : Nat → Value) : Prop := ∃ ρ1 b, Any ts ρ ρ1 ∧ ρ' = upd ρ1 d (.bool b) ∧ (b = true ↔ R)
theorem SegM.mk {ts : List Nat} {d : Nat} {R : Prop} {ρ ρ1 : Nat → Value} {b : Bool} (hA : Any ts ρ ρ1) (hb : b = true ↔ R) : SegM ts d R ρ (upd ρ1 d (.bool b)) := ⟨ρ1, b, hA, rfl, hb⟩
theorem OW.seg {l : List Oper} {Q : Post} {ρ : Nat → Value} {L : List Ent} {R : Prop} (k : Nat) (ts : List Nat) (d : Nat) (hs : QW P n w0 E ops (l.take k) (SegM ts d R ρ) L ρ)
    (hn : ∀ ρ1 b, Any ts ρ ρ1 → (b = true ↔ R) → OW P n w0 E ops (l.drop k) Q (upd ρ1 d (.bool b)) L) : OW P n w0 E ops l Q ρ L :=
  OW.quietly k hs fun ρ' ⟨ρ1, b, hA, he, hb⟩ => he ▸ hn ρ1 b hA hb
theorem QW.seg {l : List Oper} {K : (Nat → Value) → Prop} {ρ : Nat → Value} {L : List Ent} {R : Prop} (k : Nat) (ts : List Nat) (d : Nat) (hs : QW P n w0 E ops (l.take k) (SegM ts d R ρ) L ρ)
    (hn : ∀ ρ1 b, Any ts ρ ρ1 → (b = true ↔ R) → QW P n w0 E ops (l.drop k) K L (upd ρ1 d (.bool b))) : QW P n w0 E ops l K L ρ :=
  QW.quietly k hs fun ρ' ⟨ρ1, b, hA, he, hb⟩ => he ▸ hn ρ1 b hA hb
theorem OW.segOr {l : List Oper} {Q : Post} {ρ : Nat → Value} {L : List Ent} (k : Nat) (ts : List Nat) (d : Nat) {b1 : Bool} {P1 P2 : Prop} (h1 : b1 = true ↔ P1) (hrun : b1 = false → QW P n w0 E ops (l.take k) (SegM ts d (P1 ∨ P2) ρ) L ρ)
    (hskip : b1 = true → QW P n w0 E ops (l.take k) (SegM ts d (P1 ∨ P2) ρ) L ρ) (hn : ∀ ρ1 b, Any ts ρ ρ1 → (b = true ↔ (P1 ∨ P2)) → OW P n w0 E ops (l.drop k) Q (upd ρ1 d (.bool b)) L) : OW P n w0 E ops l Q ρ L :=
  OW.seg k ts d (by cases hb : b1; exact hrun hb; exact hskip hb) hn
theorem QW.segOr {l : List Oper} {K : (Nat → Value) → Prop} {ρ : Nat → Value} {L : List Ent} (k : Nat) (ts : List Nat) (d : Nat) {b1 : Bool} {P1 P2 : Prop} (h1 : b1 = true ↔ P1) (hrun : b1 = false → QW P n w0 E ops (l.take k) (SegM ts d (P1 ∨ P2) ρ) L ρ)
    (hskip : b1 = true → QW P n w0 E ops (l.take k) (SegM ts d (P1 ∨ P2) ρ) L ρ) (hn : ∀ ρ1 b, Any ts ρ ρ1 → (b = true ↔ (P1 ∨ P2)) → QW P n w0 E ops (l.drop k) K L (upd ρ1 d (.bool b))) : QW P n w0 E ops l K L ρ :=
  QW.seg k ts d (by cases hb : b1; exact hrun hb; exact hskip hb) hn
theorem OW.segAnd {l : List Oper} {Q : Post} {ρ : Nat → Value} {L : List Ent} (k : Nat) (ts : List Nat) (d : Nat) {b1 : Bool} {P1 P2 : Prop} (h1 : b1 = true ↔ P1) (hrun : b1 = true → QW P n w0 E ops (l.take k) (SegM ts d (P1 ∧ P2) ρ) L ρ)
    (hskip : b1 = false → QW P n w0 E ops (l.take k) (SegM ts d (P1 ∧ P2) ρ) L ρ) (hn : ∀ ρ1 b, Any ts ρ ρ1 → (b = true ↔ (P1 ∧ P2)) → OW P n w0 E ops (l.drop k) Q (upd ρ1 d (.bool b)) L) : OW P n w0 E ops l Q ρ L :=
  OW.seg k ts d (by cases hb : b1; exact hskip hb; exact hrun hb) hn
theorem QW.segAnd {l : List Oper} {K : (Nat → Value) → Prop} {ρ : Nat → Value} {L : List Ent} (k : Nat) (ts : List Nat) (d : Nat) {b1 : Bool} {P1 P2 : Prop} (h1 : b1 = true ↔ P1) (hrun : b1 = true → QW P n w0 E ops (l.take k) (SegM ts d (P1 ∧ P2) ρ) L ρ)
    (hskip : b1 = false → QW P n w0 E ops (l.take k) (SegM ts d (P1 ∧ P2) ρ) L ρ) (hn : ∀ ρ1 b, Any ts ρ ρ1 → (b = true ↔ (P1 ∧ P2)) → QW P n w0 E ops (l.drop k) K L (upd ρ1 d (.bool b))) : QW P n w0 E ops l K L ρ :=
  QW.seg k ts d (by cases hb : b1; exact hskip hb; exact hrun hb) hn
theorem or_run {P1 P2 : Prop} {b1 b : Bool} (h1 : b1 = true ↔ P1) (he : b1 = false) (h2 : b = true ↔ P2) : b = true ↔ (P1 ∨ P2) := by
  subst he
  exact ⟨fun h => .inr (h2.1 h), fun h => h.elim (fun p => absurd (h1.2 p) (by decide)) h2.2⟩
theorem or_skip {P1 P2 : Prop} {b1 : Bool} (h1 : b1 = true ↔ P1) (he : b1 = true) : true = true ↔ (P1 ∨ P2) := ⟨fun h => .inl (h1.1 he), fun _ => rfl⟩
theorem and_run {P1 P2 : Prop} {b1 b : Bool} (h1 : b1 = true ↔ P1) (he : b1 = true) (h2 : b = true ↔ P2) : b = true ↔ (P1 ∧ P2) := ⟨fun h => ⟨h1.1 he, h2.1 h⟩, fun h => h2.2 h.2⟩
theorem and_skip {P1 P2 : Prop} {b1 : Bool} (h1 : b1 = true ↔ P1) (he : b1 = false) : false = true ↔ (P1 ∧ P2) := by
  constructor
  · intro h; cases h
  · intro h; rw [h1.2 h.1] at he; cases he
theorem not_iff' {p : Prop} {b : Bool} (h : b = true ↔ p) : (!b) = true ↔ ¬ p := by cases b <;> simp_all

/-- A test, its value by a name. -/
theorem OW.qb {o : Oper} {rest : List Oper} {Q : Post} {ρ : Nat → Value} {L : List Ent} {p : Prop} [Decidable p] {d : Tmp} (hw : Region.wanted o (yl n ops ρ) = true) (hd : o.dst = some d)
    (hy : Yq P n w0 E o ρ L (.bool (decide p))) (h : ∀ b : Bool, (b = true ↔ p) → OW P n w0 E ops rest Q (upd ρ d (.bool b)) L) : OW P n w0 E ops (o :: rest) Q ρ L :=
  OW.q hw hd hy (h _ (by simp))
theorem QW.qb {o : Oper} {rest : List Oper} {K : (Nat → Value) → Prop} {ρ : Nat → Value} {L : List Ent} {p : Prop} [Decidable p] {d : Tmp} (hw : Region.wanted o (yl n ops ρ) = true) (hd : o.dst = some d)
    (hy : Yq P n w0 E o ρ L (.bool (decide p))) (h : ∀ b : Bool, (b = true ↔ p) → QW P n w0 E ops rest K L (upd ρ d (.bool b))) : QW P n w0 E ops (o :: rest) K L ρ :=
  QW.q hw hd hy (h _ (by simp))
/-- A negation, its value by a name. -/
theorem OW.qn {o : Oper} {rest : List Oper} {Q : Post} {ρ : Nat → Value} {L : List Ent} {p : Prop} {b0 : Bool} {d : Tmp} (hw : Region.wanted o (yl n ops ρ) = true) (hd : o.dst = some d)
    (hy : Yq P n w0 E o ρ L (.bool (!b0))) (hb : b0 = true ↔ p) (h : ∀ b : Bool, (b = true ↔ ¬ p) → OW P n w0 E ops rest Q (upd ρ d (.bool b)) L) : OW P n w0 E ops (o :: rest) Q ρ L :=
  OW.q hw hd hy (h _ (not_iff' hb))
theorem QW.qn {o : Oper} {rest : List Oper} {K : (Nat → Value) → Prop} {ρ : Nat → Value} {L : List Ent} {p : Prop} {b0 : Bool} {d : Tmp} (hw : Region.wanted o (yl n ops ρ) = true) (hd : o.dst = some d)
    (hy : Yq P n w0 E o ρ L (.bool (!b0))) (hb : b0 = true ↔ p) (h : ∀ b : Bool, (b = true ↔ ¬ p) → QW P n w0 E ops rest K L (upd ρ d (.bool b))) : QW P n w0 E ops (o :: rest) K L ρ :=
  QW.q hw hd hy (h _ (not_iff' hb))
theorem CW.condq {c : Operand} {x y : Code} {p : Prop} {b : Bool} {Q : Post} {ρ : Nat → Value} {L : List Ent} (hc : ev n ρ c = .bool b) (hb : b = true ↔ p) (ht : p → CW P n w0 E x Q ρ L) (hf : ¬ p → CW P n w0 E y Q ρ L) : CW P n w0 E (.cond c x y) Q ρ L :=
  CW.cond hc (fun h => ht (hb.1 h)) (fun h => hf (fun q => by rw [hb.2 q] at h; cases h))
def noGotoQ (Q : Post) : Post
  | .goto _, _, _ => False
  | e, ρ, L => Q e ρ L
theorem CW.scope {c : Code} {Q : Post} {ρ : Nat → Value} {L : List Ent} (h : CW P n w0 E c (noGotoQ Q) ρ L) : CW P n w0 E (.scope c) Q ρ L := by
  intro a w hf hc
  refine wp_scope_straight (Code.wp_mono (fun e a' w' hu => ?_) (h a w hf hc))
  obtain ⟨ρ', L', h1, h2, h3⟩ := hu
  cases e with
  | goto l => exact h3.elim
  | _ => exact ⟨ρ', L', h1, h2, h3⟩
theorem noGoto_ret {Q : Post} {ρ : Nat → Value} {L : List Ent} (h : Q .ret ρ L) : noGotoQ Q .ret ρ L := h
theorem noGoto_exit {id : Nat} {Q : Post} {ρ : Nat → Value} {L : List Ent} (h : Q (.exit id) ρ L) : noGotoQ Q (.exit id) ρ L := h
/-- A class whose entries lie in what was there. -/
theorem Cl.lent {w : World} {E : List Nat} {L : List Ent} (h1 : ∀ x ∈ L, x.ok w) (h2 : ∀ x ∈ L, ∀ b, x.fp = some b → b ∈ E) (h3 : (L.filterMap Ent.fp).Nodup) : Cl w E L w :=
  ⟨rfl, rfl, rfl, Nat.le_refl _, fun _ _ _ => rfl, h1, fun x hx b hb => .inr (h2 x hx b hb), h3⟩
theorem Cl.lent1 {w : World} {x : Ent} (h : x.ok w) : Cl w x.fp.toList [x] w := by
  refine Cl.lent (fun y hy => ?_) (fun y hy b hb => ?_) ?_
  · rw [List.mem_singleton] at hy; subst hy; exact h
  · rw [List.mem_singleton] at hy; subst hy; rw [hb]; simp
  · cases hf : x.fp <;> simp [hf]
/-- Hashes in a row, one of them another one. -/
theorem spl_flat {l : List Hash} {k : Nat} (h : k < l.length) (x : Hash) : spl (l.flatMap hc) (k * 32) (hc x) = (l.set k x).flatMap hc := by
  unfold spl
  rw [hc_length, Nat.mul_comm, flat_take, show 32 * k + 32 = 32 * (k + 1) by omega, flat_drop, List.set_eq_take_append_cons_drop, if_pos h, List.flatMap_append, List.flatMap_cons, List.append_assoc]
end
end Go.WL

namespace Go.WL
open Go.Spec
section
variable {P : Program} {n : Nat} {w0 : World} {E : List Nat} {ops : Array Oper}

/-- A value, and the world is as it was. -/
def Yv (P : Program) (n : Nat) (w0 : World) (E : List Nat) (o : Oper) (ρ : Nat → Value) (L : List Ent) (v : Value) : Prop :=
  ∀ w, Cl w0 E L w → (execOp (ev n ρ) o).run P w = .ok (.value v) w
theorem value_of_quiet {C : World → Prop} {w : World} {v : Value} {s : Sem Value} (h : Oper.quietUpon P C w v ((do pure (Next.value (← s)) : Sem Next).run P w)) : (do pure (Next.value (← s)) : Sem Next).run P w = .ok (.value v) w := by
  have e : (do pure (Next.value (← s)) : Sem Next).run P w = (s.run P w).andThen fun x w' => .ok (.value x) w' := by simp
  rw [e] at h ⊢
  cases hs : s.run P w with
  | ok x w' =>
    rw [hs] at h
    simp only [Result.andThen_ok, Oper.quietUpon] at h ⊢
    obtain ⟨rfl, rfl⟩ := h
    rfl
  | halt x w' =>
    rw [hs] at h
    exact absurd h (by simp [Oper.quietUpon, Result.andThen])
def plainOp : Op → Bool
  | .move _ | .assign _ | .build .. | .load .. | .binOp .. | .unOp .. | .convert .. | .makeFunc .. | .slice .. | .fieldAddr .. | .field .. | .indexAddr .. | .index .. | .extract .. | .pick .. => true
  | _ => false
theorem yv_of_yq {o : Oper} {ρ : Nat → Value} {L : List Ent} {v : Value} (hp : plainOp o.op = true) (h : Yq P n w0 E o ρ L v) : Yv P n w0 E o ρ L v := by
  intro w hw
  have h1 := h w hw
  cases ho : o.op <;> rw [ho] at hp <;> first | (exfalso; revert hp; simp only [plainOp]; done) | (simp only [plainOp, reduceCtorEq] at hp; done) | skip
  case pick c a b =>
    simp only [execOp, ho] at h1 ⊢
    have e : (do pure (Next.value (if ← asBool (ev n ρ c) then ev n ρ a else ev n ρ b)) : Sem Next).run P w = ((asBool (ev n ρ c)).run P w).andThen fun x w' => .ok (.value (if x then ev n ρ a else ev n ρ b)) w' := by simp
    rw [e] at h1 ⊢
    cases hs : (asBool (ev n ρ c)).run P w with
    | ok x w' =>
      rw [hs] at h1
      simp only [Result.andThen_ok, Oper.quietUpon] at h1 ⊢
      obtain ⟨rfl, rfl⟩ := h1
      rfl
    | halt x w' =>
      rw [hs] at h1
      exact absurd h1 (by simp [Oper.quietUpon, Result.andThen])
  all_goals
    simp only [execOp, ho] at h1 ⊢
    first
    | exact value_of_quiet h1
    | (simp only [Sem.run_pure, Oper.quietUpon] at h1 ⊢; obtain ⟨h2, h3⟩ := h1; rw [h3])
theorem yv_len_str {o : Oper} {ρ : Nat → Value} {L : List Ent} {T : TypeId} {ats : List TypeId} {x : Operand} {s : ByteArray} (h : o.op = .call ⟨.builtin .len, [x].toArray, (T :: ats).toArray⟩) (ht : tstr P T = true) (hx : ev n ρ x = .string s) : Yv P n w0 E o ρ L (.int .i64 (s.size : Int)) := by
  intro w hc
  simp [execOp, h, resolve, hx, invoke, builtin, Builtin.len_, run_und (und_str ht), goInt]
theorem yv_len_slice {o : Oper} {ρ : Nat → Value} {L : List Ent} {T e : TypeId} {ats : List TypeId} {x : Operand} {a : Option Addr} {len cap : Nat} (h : o.op = .call ⟨.builtin .len, [x].toArray, (T :: ats).toArray⟩) (ht : tslice P T = some e) (hx : ev n ρ x = .slice a len cap) : Yv P n w0 E o ρ L (.int .i64 (len : Int)) := by
  intro w hc
  simp [execOp, h, resolve, hx, invoke, builtin, Builtin.len_, run_und (und_slice ht), goInt]

/-- Whatever order is drawn from here on. -/
def HW (P : Program) (n : Nat) (w0 : World) (E : List Nat) (ops : Array Oper) (L0 : List Ent) (fuel : Nat) (listed : Array Bool) (Q : Post) (ρ : Nat → Value) (L : List Ent) : Prop :=
  ∀ a w, FR n ρ a → Cl w0 E L w → wpAnyH P .any ops (fun e a w => e = .normal ∧ up n w0 E Q .normal a w) (Cl w0 E L0) fuel listed a w

theorem HW.take {L0 : List Ent} {fuel : Nat} {listed : Array Bool} {Q : Post} {ρ : Nat → Value} {L : List Ent} (i : Nat) {o : Oper} {v : Value} {d : Tmp} (hi : ops[i]? = some o) (hs : Region.noSelect ops = true) (hf : Region.free .any ops listed i = true)
    (hr : (Region.ready .any ops listed).contains i = true) (hw : Region.wanted o (yl n ops ρ) = true) (hd : o.dst = some d) (hsub : L0.Sublist L) (hy : Yv P n w0 E o ρ L0 v)
    (h : HW P n w0 E ops L0 fuel (listed.setIfInBounds i true) Q (upd ρ d v) L) : HW P n w0 E ops L0 (fuel + 1) listed Q ρ L := by
  intro a w hfr hc
  refine wpAnyH_take hi hs hf hr (fun c a w h => absurd h.1 (by simp)) (.inl ⟨by rw [hfr.yielded]; exact hw, fun w hw => by rw [hfr.eval]; exact hy w hw⟩) (hc.sub hsub) ?_
  have hp : FR n (upd ρ d v) (a.put o.dst v) := by have := hfr.put o.dst v; rwa [hd] at this ⊢
  exact h _ _ hp hc
theorem HW.skip {L0 : List Ent} {fuel : Nat} {listed : Array Bool} {Q : Post} {ρ : Nat → Value} {L : List Ent} (i : Nat) {o : Oper} {d : Tmp} (hi : ops[i]? = some o) (hs : Region.noSelect ops = true) (hf : Region.free .any ops listed i = true)
    (hr : (Region.ready .any ops listed).contains i = true) (hw : Region.wanted o (yl n ops ρ) = false) (hd : o.dst = some d) (hsub : L0.Sublist L)
    (h : HW P n w0 E ops L0 fuel (listed.setIfInBounds i true) Q (upd ρ d undef) L) : HW P n w0 E ops L0 (fuel + 1) listed Q ρ L := by
  intro a w hfr hc
  refine wpAnyH_take hi hs hf hr (fun c a w h => absurd h.1 (by simp)) (.inr ⟨by rw [hfr.yielded]; exact hw, rfl⟩) (hc.sub hsub) ?_
  have hp : FR n (upd ρ d undef) (a.put o.dst undef) := by have := hfr.put o.dst undef; rwa [hd] at this ⊢
  exact h _ _ hp hc
/-- What one operation must come to. -/
def HN (P : Program) (n : Nat) (w0 : World) (E : List Nat) (ops : Array Oper) (L0 : List Ent) (fuel : Nat) (listed : Array Bool) (Q : Post) : Post := fun e ρ L => e = .normal ∧ L0.Sublist L ∧ HW P n w0 E ops L0 fuel listed Q ρ L
theorem HW.all {L0 : List Ent} {fuel : Nat} {listed : Array Bool} {Q : Post} {ρ : Nat → Value} {L : List Ent} (rs : List Nat) (hr : Region.ready .any ops listed = rs) (hne : rs ≠ [])
    (h : ∀ i ∈ rs, ∃ o, ops[i]? = some o ∧ OW P n w0 E ops [o] (HN P n w0 E ops L0 fuel (listed.setIfInBounds i true) Q) ρ L) : HW P n w0 E ops L0 (fuel + 1) listed Q ρ L := by
  intro a w hfr hc
  refine wpAnyH_all hr hne fun i hi => ?_
  obtain ⟨o, ho, how⟩ := h i hi
  have h1 := how a w hfr hc
  have hnext : ∀ a' w', up n w0 E (HN P n w0 E ops L0 fuel (listed.setIfInBounds i true) Q) .normal a' w' → Cl w0 E L0 w' ∧ wpAnyH P .any ops (fun e a w => e = .normal ∧ up n w0 E Q .normal a w) (Cl w0 E L0) fuel (listed.setIfInBounds i true) a' w' := by
    intro a' w' ⟨ρ', L', hf', hc', _, hsub, hh⟩
    exact ⟨hc'.sub hsub, hh a' w' hf' hc'⟩
  have hno : ∀ c a' w', ¬ up n w0 E (HN P n w0 E ops L0 fuel (listed.setIfInBounds i true) Q) (.panic c) a' w' := fun c a' w' ⟨ρ', L', _, _, hne, _⟩ => by cases hne
  have hlo : ¬ LetsOut (up n w0 E (HN P n w0 E ops L0 fuel (listed.setIfInBounds i true) Q)) := fun ⟨a', w', ρ', L', _, _, hne, _⟩ => by cases hne
  unfold wpOp
  simp only [ho]
  unfold wpList at h1
  split
  · rename_i hw
    rw [if_pos hw] at h1
    rcases h1 with h1 | ⟨_, h2⟩
    · refine .inl ?_
      unfold Oper.wp at *
      generalize (execOp a.eval o).run P w = r at *
      cases r with
      | ok x w' =>
        cases x <;> simp only [Oper.upon] at h1 ⊢
        case value u => exact hnext _ _ h1
        case skip => exact hnext _ _ h1
        case defer d => exact hnext _ _ h1
        case enter f args =>
          refine Calls.mono h1 fun e w'' he => ?_
          cases e with
          | returned u => exact hnext _ _ he
          | panicked c => exact absurd he (hno _ _ _)
          | outgrown => exact absurd he hlo
        case row row args => exact Rows.mono h1 fun u w'' he => hnext _ _ he
      | halt x w' =>
        cases x <;> simp only [Oper.upon] at h1 ⊢
        case panic u => exact absurd h1 (hno _ _ _)
    · exact absurd h2 hlo
  · rename_i hw
    rw [if_neg hw] at h1
    exact hnext _ _ h1
theorem HW.one {L0 : List Ent} {fuel : Nat} {listed : Array Bool} {Q : Post} {ρ : Nat → Value} {L : List Ent} (i : Nat) {o : Oper} (hr : Region.ready .any ops listed = [i]) (hi : ops[i]? = some o)
    (h : OW P n w0 E ops [o] (HN P n w0 E ops L0 fuel (listed.setIfInBounds i true) Q) ρ L) : HW P n w0 E ops L0 (fuel + 1) listed Q ρ L :=
  HW.all [i] hr (by simp) fun k hk => by
    rw [List.mem_singleton] at hk
    subst hk
    exact ⟨o, hi, h⟩
theorem HW.two {L0 : List Ent} {fuel : Nat} {listed : Array Bool} {Q : Post} {ρ : Nat → Value} {L : List Ent} (i j : Nat) {o o' : Oper} (hr : Region.ready .any ops listed = [i, j]) (hi : ops[i]? = some o) (hj : ops[j]? = some o')
    (h : OW P n w0 E ops [o] (HN P n w0 E ops L0 fuel (listed.setIfInBounds i true) Q) ρ L) (h' : OW P n w0 E ops [o'] (HN P n w0 E ops L0 fuel (listed.setIfInBounds j true) Q) ρ L) : HW P n w0 E ops L0 (fuel + 1) listed Q ρ L :=
  HW.all [i, j] hr (by simp) fun k hk => by
    rcases List.mem_cons.1 hk with rfl | hk
    · exact ⟨o, hi, h⟩
    · rw [List.mem_singleton] at hk
      subst hk
      exact ⟨o', hj, h'⟩
theorem HW.three {L0 : List Ent} {fuel : Nat} {listed : Array Bool} {Q : Post} {ρ : Nat → Value} {L : List Ent} (i j l : Nat) {o o' o'' : Oper} (hr : Region.ready .any ops listed = [i, j, l]) (hi : ops[i]? = some o) (hj : ops[j]? = some o') (hl : ops[l]? = some o'')
    (h : OW P n w0 E ops [o] (HN P n w0 E ops L0 fuel (listed.setIfInBounds i true) Q) ρ L) (h' : OW P n w0 E ops [o'] (HN P n w0 E ops L0 fuel (listed.setIfInBounds j true) Q) ρ L)
    (h'' : OW P n w0 E ops [o''] (HN P n w0 E ops L0 fuel (listed.setIfInBounds l true) Q) ρ L) : HW P n w0 E ops L0 (fuel + 1) listed Q ρ L :=
  HW.all [i, j, l] hr (by simp) fun k hk => by
    rcases List.mem_cons.1 hk with rfl | hk
    · exact ⟨o, hi, h⟩
    · rcases List.mem_cons.1 hk with rfl | hk
      · exact ⟨o', hj, h'⟩
      · rw [List.mem_singleton] at hk
        subst hk
        exact ⟨o'', hl, h''⟩
theorem HW.done {L0 : List Ent} {fuel : Nat} {listed : Array Bool} {Q : Post} {ρ : Nat → Value} {L : List Ent} (hr : Region.ready .any ops listed = []) (h : Q .normal ρ L) : HW P n w0 E ops L0 fuel listed Q ρ L :=
  fun a w hf hc => wpAnyH_done hr ⟨rfl, ρ, L, hf, hc, h⟩ fuel
theorem HW.perm {L0 : List Ent} {fuel : Nat} {listed : Array Bool} {Q : Post} {ρ : Nat → Value} {L L' : List Ent} (hp : L.Perm L') (h : HW P n w0 E ops L0 fuel listed Q ρ L') : HW P n w0 E ops L0 fuel listed Q ρ L :=
  fun a w hf hc => h a w hf (hc.perm hp)
/-- The beginning. -/
theorem CW.held {id : Nat} {l : List Oper} {Q : Post} {ρ : Nat → Value} {L : List Ent} (L0 : List Ent) (hm : P.follows .mixedOrders = true) (h : HW P n w0 E l.toArray L0 l.length (Array.replicate l.length false) Q ρ L) : CW P n w0 E (.region id l.toArray true) Q ρ L := by
  intro a w hf hc
  have h1 := h a _ hf (hc.drew (w.drawn + 1))
  rw [← List.size_toArray] at h1
  have h2 := wp_region_held (id := id) hm h1
  exact Code.wp_mono (Q := fun e a w => e = .normal ∧ up n w0 E Q .normal a w) (fun e a' w' h3 => by obtain ⟨he, hu⟩ := h3; subst he; exact hu) h2
theorem CW.heldL {id : Nat} {l : List Oper} {Q : Post} {ρ : Nat → Value} {L : List Ent} (hm : P.follows .mixedOrders = true) (h : HW P n w0 E l.toArray L l.length (Array.replicate l.length false) Q ρ L) : CW P n w0 E (.region id l.toArray true) Q ρ L := CW.held L hm h
/-- A cut behind a piece of code. -/
theorem CW.cutR {x y : Code} {Q : Post} {ρ : Nat → Value} {L : List Ent} (M : (Nat → Value) → List Ent → Prop) (h1 : CW P n w0 E x (fun e ρ L => e = .normal ∧ M ρ L) ρ L) (h2 : ∀ ρ L, M ρ L → CW P n w0 E y Q ρ L) : CW P n w0 E (.seq x y) Q ρ L :=
  CW.seq (CW.mono (fun e ρ L ⟨he, hm⟩ => by subst he; exact h2 ρ L hm) h1)
end
end Go.WL

namespace Go.WL
open Go.Spec
section
variable {P : Program} {n : Nat} {w0 : World} {E : List Nat} {o : Oper} {ρ : Nat → Value} {L : List Ent}

/-- 'append(s, x...)', both of ours. -/
theorem OW.appendRow {ops : Array Oper} {rest : List Oper} {Q : Post} {s x : Operand} {T e : TypeId} {a a2 : Option Nat} {k cap m c2 size bytes : Nat} {g : Bool} {xs ys zs : List Value} {L' : List Ent} {d : Tmp}
    (hw : Region.wanted o (yl n ops ρ) = true) (hd : o.dst = some d) (h : o.op = .call ⟨.builtin .append, #[s, x], #[T, T]⟩)
    (hs : ev n ρ s = rowV a k cap) (hx : ev n ρ x = rowV a2 m c2) (ht : tslice P T = some e) (ti : tinfo P e = some (size, g, bytes)) (tz : tzero P e = some zs)
    (hdel : Del (.row a cap k e size xs) L L') (hm : Ent.row a2 c2 m e size ys ∈ L) (h1 : ∀ u ∈ ys, u.oneCell' = true)
    (hz : zs.length = size) (h0 : 0 < size) (hmx : k + m ≤ maxLen) (hb : (k + m) * bytes ≤ 140737488355328)
    (hn : ∀ a' cap', OW P n w0 E ops rest Q (upd ρ d (rowV a' (k + m) cap')) (.row a' cap' (k + m) e size (xs ++ ys) :: L')) : OW P n w0 E ops (o :: rest) Q ρ L := by
  refine OW.know (ys.length = m * size ∧ (a2 = none → m = 0 ∧ c2 = 0)) (fun w hc => ?_) ?_
  · have hown : w.ownsRow 0 e size (rowV a2 m c2) m ys := hc.own _ hm
    refine ⟨hown.1, fun ha => ?_⟩
    subst ha
    rcases hown.2 with ⟨h2, h3⟩ | ⟨g', cap', cur, h2, _⟩
    · simp only [rowV, Option.map_none, Value.slice.injEq] at h2
      exact ⟨h3, h2.2.2⟩
    · simp [rowV] at h2
  rintro ⟨hl, ha⟩
  cases a2 with
  | some g2 => exact OW.append hw hd h hs hx ht ti tz hdel (row_cells hm) hl h1 hz h0 hmx hb hn
  | none =>
    obtain ⟨rfl, rfl⟩ := ha rfl
    have hy : ys = [] := List.eq_nil_of_length_eq_zero (by rw [hl]; simp)
    subst hy
    refine OW.m hw fun w hc => ?_
    rw [hd]
    have hc' := hc.perm hdel.perm
    have hown : w.ownsRow 0 e size (rowV a k cap) k xs := hc'.own (.row a cap k e size xs) (by simp)
    obtain ⟨i, z, hi, hsz, hby, hzz, hzc⟩ := info_of ti tz
    have hr := run_append_owned_none (P := P) w 0 T o.type e i size (und_slice ht) hi (rowV a k cap) k xs hown
    have hxn : ev n ρ x = .slice none 0 0 := hx
    have h2 := hn a cap
    rw [Nat.add_zero, List.append_nil] at h2
    exact ⟨_, _, w, .inl (by simp [execOp, h, resolve, hs, hxn, invoke, builtin, hr]), hc', h2⟩
theorem CW.cutK {x : Code} {Q : Post} {K : (Nat → Value) → List Ent → Prop} {ρ : Nat → Value} {L : List Ent} (M : (Nat → Value) → List Ent → Prop) (h1 : CW P n w0 E x (thenQ M Q) ρ L) (h2 : ∀ ρ L, M ρ L → K ρ L) : CW P n w0 E x (thenQ K Q) ρ L :=
  CW.mono (fun e ρ L h => by cases e <;> first | exact h2 ρ L h | exact h) h1
end
/-- The lowest bits. -/
theorem bitsOf_low (k : Nat) (hk : k ≤ 62) (a : Int) (h1 : -9223372036854775808 ≤ a) (h2 : a ≤ 9223372036854775807) : bitsOf .and .i64 a (2 ^ k - 1 : Nat) = a % (2 ^ k : Nat) := by
  have hp : (2 : Nat) ^ k ≤ 2 ^ 62 := Nat.pow_le_pow_right (by decide) hk
  have hp62 : (2 : Nat) ^ 62 = 4611686018427387904 := by decide
  have h0 : 0 < (2 : Nat) ^ k := Nat.two_pow_pos k
  have e1 : (BitVec.ofInt 64 ((2 ^ k - 1 : Nat) : Int)).toNat = 2 ^ k - 1 := by
    rw [ofInt_nat, BitVec.toNat_ofNat]; omega
  have e2 : ((BitVec.ofInt 64 a &&& BitVec.ofInt 64 ((2 ^ k - 1 : Nat) : Int)).toNat : Int) = a % (2 ^ k : Nat) := by
    rw [BitVec.toNat_and, e1, Nat.and_two_pow_sub_one_eq_mod, BitVec.toNat_ofInt]
    have hdvd : ((2 ^ k : Nat) : Int) ∣ ((2 ^ 64 : Nat) : Int) := by
      refine ⟨((2 ^ (64 - k) : Nat) : Int), ?_⟩
      rw [← Int.natCast_mul, ← Nat.pow_add, show k + (64 - k) = 64 by omega]
    have h3 : (0 : Int) ≤ a % ((2 ^ 64 : Nat) : Int) := Int.emod_nonneg _ (by decide)
    rw [Int.natCast_emod, Int.toNat_of_nonneg h3, Int.emod_emod_of_dvd _ hdvd]
  unfold bitsOf
  have h4 : 0 ≤ a % ((2 ^ k : Nat) : Int) := Int.emod_nonneg _ (by omega)
  have h5 : a % ((2 ^ k : Nat) : Int) < ((2 ^ k : Nat) : Int) := Int.emod_lt_of_pos _ (by omega)
  show IntKind.i64.wrap _ = _
  rw [show IntKind.bits .i64 = 64 from rfl, e2, wrap64_in (by omega)]
end Go.WL

namespace Go.WL
open Go.Spec
section
variable {P : Program} {n : Nat} {w0 : World} {E : List Nat} {o : Oper} {ρ : Nat → Value} {L : List Ent}

theorem yv_nilCheck {x : Operand} {a : Addr} (h : o.op = .nilCheck x) (hx : ev n ρ x = .pointer (some a)) : Yv P n w0 E o ρ L (.pointer (some a)) := by
  intro w hw
  simp [execOp, h, hx]
theorem strCells_bs (l : Bytes) : Lib.strCells (bs l) = bc l := by simp [Lib.strCells, bs, bc]
/-- 'append(b, s...)' of a text. -/
theorem OW.appendS {ops : Array Oper} {rest : List Oper} {Q : Post} {s x : Operand} {T S e : TypeId} {a : Option Nat} {k cap : Nat} {l : Bytes} {xs : List Value} {L' : List Ent} {d : Tmp}
    (hw : Region.wanted o (yl n ops ρ) = true) (hd : o.dst = some d) (h : o.op = .call ⟨.builtin .append, #[s, x], #[T, S]⟩)
    (hs : ev n ρ s = rowV a k cap) (hx : ev n ρ x = .string (bs l)) (ht : tslice P T = some e) (hS : tstr P S = true) (ti : tinfo P e = some (1, false, 1)) (tz : tzero P e = some [.int .u8 0]) (hz1 : (P.info? e).bind (fun i => i.zero) = some (.int .u8 0))
    (hdel : Del (.row a cap k e 1 xs) L L') (hb : k + l.length ≤ 140737488355328)
    (hn : ∀ a' cap', OW P n w0 E ops rest Q (upd ρ d (rowV a' (k + l.length) cap')) (.row a' cap' (k + l.length) e 1 (xs ++ bc l) :: L')) : OW P n w0 E ops (o :: rest) Q ρ L := by
  refine OW.m hw fun w hc => ?_
  rw [hd]
  have hc' := hc.perm hdel.perm
  have hown : w.ownsRow 0 e 1 (rowV a k cap) k xs := hc'.own (.row a cap k e 1 xs) (by simp)
  obtain ⟨i, z, hi, hsz, hby, hzz, hzc⟩ := info_of ti tz
  have hz0 : z = .int .u8 0 := by
    rw [hi] at hz1
    simp only [Option.bind_some] at hz1
    rw [hzz] at hz1
    exact Option.some.inj hz1
  subst hz0
  have hu := und_slice ht
  have huS := und_str hS
  have hm : k + l.length ≤ maxLen := by simp only [maxLen]; omega
  have hcr : ∀ {v w'}, (Builtin.append_ #[T, S] o.type #[rowV a k cap, .string (bs l)]).run P w = .ok v w' → (execOp (ev n ρ) o).run P w = .ok (.value v) w' := by
    intro v w' hr
    simp [execOp, h, resolve, hs, hx, invoke, builtin, hr]
  have hxl : xs.length = k := by simpa using hown.1
  have hbl : (bc l).length = l.length := bc_length l
  have hlen : (xs ++ bc l).length = (k + l.length) * 1 := by rw [List.length_append, hxl, hbl, Nat.mul_one]
  have grown : ∀ (old : Nat), old < k + l.length → ∀ (cs : Array Value), cs = xs.toArray ++ (bc l).toArray ++ Builtin.zeroCells (Value.int .u8 0).cells (grownCap w (k + l.length) old e - (k + l.length)) → ∀ (d : Nat),
      Cl w0 E (.row (some w.heap.size) (grownCap w (k + l.length) old e) (k + l.length) e 1 (xs ++ bc l) :: L') { w with drawn := d, heap := w.heap.push (.cells cs e) } := by
    intro old ho cs hcs d
    subst hcs
    have hge := grownCap_ge w (k + l.length) old e
    have hcm : grownCap w (k + l.length) old e ≤ maxLen := grownCap_le_maxLen w (k + l.length) old e hm
    refine (hc'.sub (List.sublist_cons_self _ _)).push d _ e _ rfl ⟨hlen, .inr ⟨w.heap.size, _, xs.toArray ++ (bc l).toArray ++ Builtin.zeroCells (Value.int .u8 0).cells (grownCap w (k + l.length) old e - (k + l.length)), rfl, Nat.zero_le _, by simp, hge, hcm, ?_, ?_⟩⟩
    · have hz1 : (Value.int IntKind.u8 0).cells.size = 1 := rfl
      simp only [Array.size_append, List.size_toArray, size_zeroCells, hz1, hxl, hbl]
      omega
    · simp only [Array.toList_append, List.append_assoc]
      rw [← List.append_assoc, ← hlen]
      exact List.take_left
  cases a with
  | none =>
    have hk : k = 0 ∧ cap = 0 := by
      rcases hown.2 with ⟨hv, h2⟩ | ⟨g, cap', cur, hv, _⟩
      · simp [rowV] at hv; exact ⟨h2, hv.2⟩
      · simp [rowV] at hv
    obtain ⟨rfl, rfl⟩ := hk
    have hx0 : xs = [] := List.eq_nil_of_length_eq_zero (by simpa using hown.1)
    subst hx0
    by_cases hm0 : l = []
    · subst hm0
      refine ⟨rowV none 0 0, _, w, .inl (hcr ?_), hc', hn none 0⟩
      have hf := Lib.run_firstCells_string (P := P) w 1 (bs [])
      simp [rowV, Builtin.append_, run_underlying hu, run_underlying huS, sizeOf, typeInfo, hi, Builtin.lenOf, bs, ByteArray.size] at hf ⊢
      simp_all
    · have h0 : 0 < l.length := List.length_pos_iff.2 hm0
      have hr := run_append_nil_string (P := P) w T S o.type e i (.int .u8 0) hu huS hi hzz (bs l) (by rw [bs_size]; omega) (by rw [bs_size]; omega) (by rw [hby, bs_size]; omega)
      have hn' := hn (some w.heap.size) (grownCap w l.length 0 e)
      rw [Nat.zero_add] at hn'
      refine ⟨_, _, _, .inl (hcr hr), ?_, hn'⟩
      have e1 : ((bs l).data.map fun b => Value.int .u8 b.toNat) = (bc l).toArray := by
        apply Array.ext'
        simp [bs, bc]
      have := grown 0 (by omega) ((bc l).toArray ++ Builtin.zeroCells (Value.int .u8 0).cells (grownCap w l.length 0 e - l.length)) (by simp) (w.drawn + 1)
      simp only [Nat.zero_add, List.nil_append] at this ⊢
      rw [e1]
      exact this
  | some b =>
    obtain ⟨g, cap', cur, hv, hbg, hg, hnc, hcm, hcs, htake⟩ : ∃ g cap' cur, rowV (some b) k cap = .slice (some ⟨g, 0, none⟩) k cap' ∧ 0 ≤ g ∧ w.heap[g]? = some (.cells cur e (0, 0)) ∧ k ≤ cap' ∧ cap' ≤ maxLen ∧ cur.size = cap' * 1 ∧ cur.toList.take (k * 1) = xs := by
      rcases hown.2 with ⟨hv, _⟩ | h
      · simp [rowV] at hv
      · exact h
    obtain ⟨rfl, rfl⟩ : b = g ∧ cap = cap' := by simpa [rowV] using hv
    by_cases hroom : k + l.length ≤ cap
    · have hr := Lib.run_append_room_string (P := P) w T S o.type e i hu huS hi (by assumption) b k cap cur hg (bs l) (by rw [bs_size]; exact hroom) (by rw [bs_size]; omega)
      rw [strCells_bs, bs_size] at hr
      refine ⟨_, _, _, .inl (hcr hr), ?_, hn (some b) cap⟩
      refine hc'.put .head rfl rfl rfl rfl rfl (by simp) (fun j hj => setRow_other w b j _ hj) ⟨hlen, .inr ⟨b, cap, _, rfl, Nat.zero_le _, setRow_heap w b cur _ e _ hg, hroom, hcm, ?_, ?_⟩⟩
      · simp only [List.size_toArray, List.length_append, List.length_take, List.length_drop, Array.length_toList, hbl]
        omega
      · have ht' : cur.toList.take k = xs := by simpa using htake
        rw [ht', ← hlen]
        exact List.take_left
    · have holds : ∀ j u, xs[j]? = some u → w.cell? ((⟨b, 0, none⟩ : Addr).add j) = some u := hown.cells (g := b) rfl
      have hr := Lib.run_append_grow_string (P := P) w T S o.type e i (.int .u8 0) hu huS hi hzz ⟨b, 0, none⟩ k cap xs (by simp [*]) holds (bs l) (by rw [bs_size]; omega) (by rw [bs_size]; omega) (by rw [hby, bs_size]; exact growslice_fits (by omega) (by omega))
      rw [strCells_bs, bs_size] at hr
      refine ⟨_, _, _, .inl (hcr hr), ?_, hn (some w.heap.size) (grownCap w (k + l.length) cap e)⟩
      exact grown cap (by omega) _ rfl (w.drawn + 1)

/-- 'unsafe.SliceData' of bytes of ours. -/
theorem yq_sliceData {x : Operand} {T : TypeId} {g k cap : Nat} (h : o.op = .call ⟨.builtin .unsafeSliceData, [x].toArray, [T].toArray⟩) (hx : ev n ρ x = .slice (some ⟨g, 0, none⟩) k cap) (hc : cap ≠ 0) : Yq P n w0 E o ρ L (.pointer (some ⟨g, 0, none⟩)) :=
  yq_val fun w _ => by
    have hr := Lib.run_unsafeSliceData_row (P := P) w #[T] o.type ⟨g, 0, none⟩ k cap hc
    simp [execOp, h, resolve, hx, invoke, builtin, hr]
/-- 'unsafe.String' over bytes of ours: they are ours no more. -/
theorem OW.ustring {ops : Array Oper} {rest : List Oper} {Q : Post} {x y : Operand} {T I e : TypeId} {g cap : Nat} {l : Bytes} {L' : List Ent} {d : Tmp}
    (hw : Region.wanted o (yl n ops ρ) = true) (hd : o.dst = some d) (h : o.op = .call ⟨.builtin .unsafeString, #[x, y], #[T, I]⟩)
    (hx : ev n ρ x = .pointer (some ⟨g, 0, none⟩)) (hy : ev n ρ y = .int .i64 (l.length : Int)) (hp : P.underlying T = some (.pointer e)) (hce : P.cellsOf e = 1)
    (hdel : Del (.row (some g) cap l.length e 1 (bc l)) L L') (h0 : l ≠ []) (hn : OW P n w0 E ops rest Q (upd ρ d (.string (bs l))) L') : OW P n w0 E ops (o :: rest) Q ρ L := by
  refine OW.m hw fun w hc => ?_
  rw [hd]
  have hc' := hc.perm hdel.perm
  have hown : w.ownsRow 0 e 1 (rowV (some g) l.length cap) l.length (bc l) := hc'.own (.row (some g) cap l.length e 1 (bc l)) (by simp)
  obtain ⟨g', cap', cur, hv, _, hg, hnc, hcm, hcs, htake⟩ : ∃ g' cap' cur, rowV (some g) l.length cap = .slice (some ⟨g', 0, none⟩) l.length cap' ∧ 0 ≤ g' ∧ w.heap[g']? = some (.cells cur e (0, 0)) ∧ l.length ≤ cap' ∧ cap' ≤ maxLen ∧ cur.size = cap' * 1 ∧ cur.toList.take (l.length * 1) = bc l := by
    rcases hown.2 with ⟨hv, _⟩ | h
    · simp [rowV] at hv
    · exact h
  obtain ⟨rfl, rfl⟩ : g = g' ∧ cap = cap' := by simpa [rowV] using hv
  have hr := Lib.run_unsafeString_row (P := P) w T I o.type e hp hce g cur.size (by simp [World.shape?, hg]) l h0 (by omega) (by unfold maxLen at hcm; omega) (fun j x hx => by
    have := hown.cells (g := g) rfl j (U8 x) (by simp [bc, hx])
    exact this)
  refine ⟨_, L', w.freeze ⟨g, 0, none⟩ l.length, .inl (by simp [execOp, h, resolve, hx, hy, invoke, builtin, hr]; rfl), ?_, hn⟩
  have hkeep : ∀ k, k ≠ g → (w.freeze ⟨g, 0, none⟩ l.length).heap[k]? = w.heap[k]? := fun k hk => by
    unfold World.freeze
    split
    · rfl
    · simp only [Array.getElem?_modify]
      rw [if_neg (Ne.symm hk)]
  have hsame : (w.freeze ⟨g, 0, none⟩ l.length).os = w.os ∧ (w.freeze ⟨g, 0, none⟩ l.length).tape = w.tape ∧ (w.freeze ⟨g, 0, none⟩ l.length).output = w.output ∧ (w.freeze ⟨g, 0, none⟩ l.length).heap.size = w.heap.size := by
    unfold World.freeze
    split <;> simp
  have hfar : ∀ x ∈ L', ∀ b, x.fp = some b → b ≠ g := by
    intro z hz b hb hbg
    have hnd := hc'.nodup
    simp only [List.filterMap_cons, Ent.fp, List.nodup_cons] at hnd
    exact hnd.1 (List.mem_filterMap.2 ⟨z, hz, by rw [hb, hbg]⟩)
  have hc2 := hc'.sub (List.sublist_cons_self _ L')
  refine ⟨hsame.1.trans hc2.os, hsame.2.1.trans hc2.tape, hsame.2.2.1.trans hc2.output, by rw [hsame.2.2.2]; exact hc2.size, fun k hk hkE => ?_, fun x hx => Ent.ok_of_same (hc2.own x hx) (fun b hb => hkeep b (hfar x hx b hb)), hc2.new, hc2.nodup⟩
  have hkg : k ≠ g := by
    intro he
    rcases hc'.new _ (List.mem_cons_self ..) g rfl with h1 | h1
    · omega
    · exact hkE (he ▸ h1)
  exact (hkeep k hkg).trans (hc2.old k hk hkE)
end
end Go.WL
namespace Go.WL
open Go.Spec
section
variable {P : Program} {n : Nat} {w0 : World} {E : List Nat} {ρ : Nat → Value} {L : List Ent}
theorem OW.perm {ops : Array Oper} {rest : List Oper} {Q : Post} {L' : List Ent} (hp : L.Perm L') (h : OW P n w0 E ops rest Q ρ L') : OW P n w0 E ops rest Q ρ L := fun a w hf hc => h a w hf (hc.perm hp)
theorem CW.perm {c : Code} {Q : Post} {L' : List Ent} (hp : L.Perm L') (h : CW P n w0 E c Q ρ L') : CW P n w0 E c Q ρ L := fun a w hf hc => h a w hf (hc.perm hp)
/-- A block that is a slice's row, whole. -/
theorem OW.toRow {ops : Array Oper} {rest : List Oper} {Q : Post} {L' : List Ent} {b k size : Nat} {e : TypeId} {cs : List Value} (hp : Put (.blk b cs e (0, 0)) (.row (some b) k k e size cs) L L') (hl : cs.length = k * size) (hk : k ≤ maxLen) (h : OW P n w0 E ops rest Q ρ L') : OW P n w0 E ops rest Q ρ L := by
  intro a w hf hc
  refine h a w hf ?_
  have hb : w.heap[b]? = some (.cells cs.toArray e (0, 0)) := hc.own _ hp.mem
  refine hc.put (b := b) hp rfl rfl rfl rfl rfl rfl (fun _ _ => rfl) ?_
  exact ⟨hl, .inr ⟨b, k, cs.toArray, rfl, Nat.zero_le _, hb, Nat.le_refl _, hk, by simpa using hl, by rw [List.toList_toArray, ← hl, List.take_length]⟩⟩
/-- Two entries of ours, lent. -/
theorem Cl.lent2 {w : World} {x y : Ent} {Lk : List Ent} (h : Cl w0 E (x :: y :: Lk) w) : Cl w (x.fp.toList ++ y.fp.toList) [x, y] w := by
  refine Cl.lent (fun z hz => ?_) (fun z hz b hb => ?_) ?_
  · rcases List.mem_cons.1 hz with rfl | hz
    · exact h.own _ (by simp)
    · rw [List.mem_singleton] at hz; subst hz; exact h.own _ (by simp)
  · rcases List.mem_cons.1 hz with rfl | hz
    · rw [hb]; simp
    · rw [List.mem_singleton] at hz; subst hz; rw [hb]; simp
  · exact (h.sub (L' := [x, y]) ((List.nil_sublist Lk).cons_cons y |>.cons_cons x)).nodup
end
end Go.WL

namespace Go.WL
open Go.Spec
section
variable {P : Program} {n : Nat} {w0 : World} {E : List Nat} {o : Oper} {ρ : Nat → Value} {L : List Ent}

/-- A call to which our two first entries are lent. -/
theorem OW.callB {ops : Array Oper} {rest : List Oper} {Q : Post} {c : Operand} {xs : List Operand} {ats : Array TypeId} {f : FuncId} {vs : List Value} {d : Tmp} {x y : Ent} {Lk : List Ent} {K : Value → List Ent → Prop}
    (hw : Region.wanted o (yl n ops ρ) = true) (hd : o.dst = some d) (h : o.op = .call ⟨.value c, xs.toArray, ats⟩)
    (hc : ev n ρ c = .func (.func f) #[] #[]) (hx : Args n ρ xs vs) (he : ∀ args w, (callFunc f args).run P w = .ok (.enter f args) w)
    (hk : ∀ w, Cl w0 E (x :: y :: Lk) w → Calls P f vs.toArray w fun e w' => ∃ v L1, e = .returned v ∧ Cl w (x.fp.toList ++ y.fp.toList) L1 w' ∧ K v L1)
    (hn : ∀ v L1, K v L1 → OW P n w0 E ops rest Q (upd ρ d v) (L1 ++ Lk)) : OW P n w0 E ops (o :: rest) Q ρ (x :: y :: Lk) := by
  have hE : ∀ b ∈ x.fp.toList ++ y.fp.toList, ∃ z ∈ [x, y], z.fp = some b := by
    intro b hb
    rcases List.mem_append.1 hb with hb | hb
    · exact ⟨x, by simp, by simpa using hb⟩
    · exact ⟨y, by simp, by simpa using hb⟩
  refine OW.calle (x.fp.toList ++ y.fp.toList) Lk hw hd h hc hx he (fun b hb => ?_) ((List.sublist_cons_self _ _).trans (List.sublist_cons_self _ _)) (fun w hw => lend_apart (A := [x, y]) hw hE) hk hn
  obtain ⟨z, hz, hzb⟩ := hE b hb
  exact ⟨z, by simp at hz ⊢; rcases hz with rfl | rfl <;> simp, hzb⟩
/-- A call to which our first entry is lent. -/
theorem OW.callA {ops : Array Oper} {rest : List Oper} {Q : Post} {c : Operand} {xs : List Operand} {ats : Array TypeId} {f : FuncId} {vs : List Value} {d : Tmp} {x : Ent} {Lk : List Ent} {K : Value → List Ent → Prop}
    (hw : Region.wanted o (yl n ops ρ) = true) (hd : o.dst = some d) (h : o.op = .call ⟨.value c, xs.toArray, ats⟩)
    (hc : ev n ρ c = .func (.func f) #[] #[]) (hx : Args n ρ xs vs) (he : ∀ args w, (callFunc f args).run P w = .ok (.enter f args) w)
    (hk : ∀ w, Cl w0 E (x :: Lk) w → Calls P f vs.toArray w fun e w' => ∃ v L1, e = .returned v ∧ Cl w x.fp.toList L1 w' ∧ K v L1)
    (hn : ∀ v L1, K v L1 → OW P n w0 E ops rest Q (upd ρ d v) (L1 ++ Lk)) : OW P n w0 E ops (o :: rest) Q ρ (x :: Lk) := by
  have hE : ∀ b ∈ x.fp.toList, ∃ z ∈ [x], z.fp = some b := fun b hb => ⟨x, by simp, by simpa using hb⟩
  refine OW.calle x.fp.toList Lk hw hd h hc hx he (fun b hb => ?_) (List.sublist_cons_self _ _) (fun w hw => lend_apart (A := [x]) hw hE) hk hn
  obtain ⟨z, hz, hzb⟩ := hE b hb
  exact ⟨z, by simp at hz ⊢; exact .inl hz, hzb⟩
theorem perm22 {a b c d : Ent} {R : List Ent} : (a :: b :: c :: d :: R).Perm (c :: d :: a :: b :: R) :=
  (List.perm_append_comm (l₁ := [a, b]) (l₂ := [c, d])).append_right R
theorem perm12 {a b c : Ent} {R : List Ent} : (a :: b :: c :: R).Perm (b :: c :: a :: R) :=
  (List.perm_append_comm (l₁ := [a]) (l₂ := [b, c])).append_right R
theorem perm11 {a b : Ent} {R : List Ent} : (a :: b :: R).Perm (b :: a :: R) := .swap _ _ _
theorem bc_app (a b : Bytes) : bc (a ++ b) = bc a ++ bc b := by simp [bc]
theorem hsCell {w : World} {b off len cap : Nat} {l : List Hash} (h : HsAt w (.slice (some ⟨b, off, none⟩) len cap) l) (i : Nat) (hi : i < l.length) :
    ∀ j u, (hc (l.getD i zeroHash))[j]? = some u → w.cell? ((⟨b, off + i * 32, none⟩ : Addr).add j) = some u := by
  intro j u hu
  rw [add_mk]
  refine h.at i hi j u ?_
  rw [← hu, List.getD_eq_getElem?_getD, List.getElem?_eq_getElem hi]; rfl
theorem rep_at (m i : Nat) (h : i < m) (x : Value) : (List.replicate m x).toArray[i]! = x := by simp [h]
theorem rep_flat (k : Nat) : List.replicate (k * 32) (U8 0) = (List.replicate k zeroHash).flatMap hc := by
  induction k with
  | zero => rfl
  | succ k ih =>
    rw [Nat.succ_mul, Nat.add_comm, ← List.replicate_append_replicate, ih]
    rfl
theorem made_hash (k : Nat) : (madeCells (hc zeroHash).toArray (k * 32)).toList = (List.replicate k zeroHash).flatMap hc := by
  have e : hc zeroHash = List.replicate 32 (U8 0) := by rfl
  have h0 : ∀ i, (hc zeroHash).toArray[i % (hc zeroHash).toArray.size]! = U8 0 := by
    intro i
    have : i % 32 < 32 := Nat.mod_lt _ (by decide)
    rw [e]
    exact rep_at 32 _ this _
  rw [← rep_flat]
  unfold madeCells
  rw [Array.toList_map, Array.toList_range, List.map_congr_left (g := fun _ => U8 0) (fun i _ => h0 i)]
  apply List.ext_getElem <;> simp
theorem yq_eql_slnil {t t' e : TypeId} {x y : Operand} {a : Option Addr} {l c : Nat} (h : o.op = .binOp .eql t x y t') (hx : ev n ρ x = .slice a l c) (hy : ev n ρ y = .slice none 0 0) (ht : P.underlying t = some (.slice e)) : Yq P n w0 E o ρ L (.bool a.isNone) :=
  yq_val fun w _ => by
    have hg : (eqGuard .eql t x y (.slice a l c) (.slice none 0 0)).run P w = .ok () w := by unfold eqGuard; simp
    have he := run_equal_slice_nil (P := P) w t e a l c ht
    simp [execOp, h, hx, hy, hg, binOp, he]
theorem yq_eql_ptnil {t t' : TypeId} {x y : Operand} {a : Option Addr} (h : o.op = .binOp .eql t x y t') (hx : ev n ρ x = .pointer a) (hy : ev n ρ y = .pointer none) (ht : P.underlying t = some (.pointer (P.pointee t))) : Yq P n w0 E o ρ L (.bool a.isNone) :=
  yq_val fun w _ => by
    have hg : (eqGuard .eql t x y (.pointer a) (.pointer none)).run P w = .ok () w := by unfold eqGuard; simp
    have he := run_equal_pointer_nil (P := P) w t a ht
    simp [execOp, h, hx, hy, hg, binOp, he]
theorem Cl.toRow {L' : List Ent} {w : World} {b k size : Nat} {e : TypeId} {cs : List Value} (hc : Cl w0 E L w) (hp : Put (.blk b cs e (0, 0)) (.row (some b) k k e size cs) L L') (hl : cs.length = k * size) (hk : k ≤ maxLen) : Cl w0 E L' w := by
  have hb : w.heap[b]? = some (.cells cs.toArray e (0, 0)) := hc.own _ hp.mem
  refine hc.put (b := b) hp rfl rfl rfl rfl rfl rfl (fun _ _ => rfl) ?_
  exact ⟨hl, .inr ⟨b, k, cs.toArray, rfl, Nat.zero_le _, hb, Nat.le_refl _, hk, by simpa using hl, by rw [List.toList_toArray, ← hl, List.take_length]⟩⟩
def fillL (f : Nat → Hash) (n k : Nat) : List Hash := (List.range n).map fun i => if i < k then f i else zeroHash
theorem fillL_length (f : Nat → Hash) (n k : Nat) : (fillL f n k).length = n := by simp [fillL]
theorem fillL_zero (f : Nat → Hash) (n : Nat) : fillL f n 0 = List.replicate n zeroHash := by
  apply List.ext_getElem <;> simp [fillL]
theorem fillL_all (f : Nat → Hash) (n : Nat) : fillL f n n = (List.range n).map f := by
  unfold fillL
  refine List.map_congr_left fun i hi => ?_
  rw [if_pos (List.mem_range.1 hi)]
theorem fillL_set (f : Nat → Hash) (n k : Nat) (h : k < n) : (fillL f n k).set k (f k) = fillL f n (k + 1) := by
  apply List.ext_getElem
  · simp [fillL]
  · intro i h1 h2
    rw [List.getElem_set]
    simp only [fillL, List.getElem_map, List.getElem_range]
    by_cases hi : k = i
    · subst hi; simp
    · rw [if_neg hi]
      by_cases h3 : i < k
      · rw [if_pos h3, if_pos (by omega)]
      · rw [if_neg h3, if_neg (by omega)]
end
end Go.WL

