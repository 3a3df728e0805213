/- A layer of its own over the walk's rules: a frame as a function of its slots, memory as a list of what the call owns; no statement of the seat is proved here. -/
import Derived.Calls
import Derived.Tactics
import Derived.LoopN
import Derived.Scope
import Derived.ScopeJumps
import Derived.Deep.Quiet
import Derived.Laws.AppendOwn
import Derived.Laws.OwnMore
import Derived.Laws.Rows
import Derived.Laws.Cells
import Derived.Below
namespace Go.WL
set_option linter.unusedVariables false
set_option linter.unusedSimpArgs false

/-! ### Frames -/
def upd (ρ : Nat → Value) (d : Nat) (v : Value) : Nat → Value := fun t => bif Nat.beq t d then v else ρ t
theorem upd_same (ρ : Nat → Value) (d : Nat) (v : Value) : upd ρ d v d = v := by simp [upd]
theorem upd_ne (ρ : Nat → Value) {d t : Nat} (v : Value) (h : t ≠ d) : upd ρ d v t = ρ t := by
  have : Nat.beq t d = false := by
    cases hq : Nat.beq t d with
    | false => rfl
    | true => exact absurd (Nat.eq_of_beq_eq_true hq) h
  simp [upd, this]
theorem upd_self {ρ : Nat → Value} {d : Nat} {v : Value} (h : ρ d = v) : upd ρ d v = ρ := by
  funext t
  by_cases e : t = d
  · subst e; rw [upd_same, h]
  · rw [upd_ne _ _ e]
def updO (ρ : Nat → Value) : Option Tmp → Value → (Nat → Value)
  | some d, v => upd ρ d v
  | none, _ => ρ

def ev (n : Nat) (ρ : Nat → Value) : Operand → Value
  | .tmp t => bif Nat.blt t n then ρ t else undef
  | .const v => v
  | .global g => .pointer (some ⟨g, 0, none⟩)
  | .func f => .func (.func f) #[] #[]

structure FR (n : Nat) (ρ : Nat → Value) (a : Act) : Prop where
  defers : a.defers = []
  size : a.tmps.size = n
  at_ : ∀ t, t < n → a.tmps[t]? = some (ρ t)

theorem FR.eval {n : Nat} {ρ : Nat → Value} {a : Act} (h : FR n ρ a) : a.eval = ev n ρ := by
  funext x
  cases x with
  | tmp t =>
    by_cases ht : t < n
    · have hb : Nat.blt t n = true := by simpa [Nat.blt_eq] using ht
      have := h.at_ t ht
      simp only [Act.eval, ev, hb, cond_true]
      rw [Array.getD_eq_getD_getElem?, this]; rfl
    · have hb : Nat.blt t n = false := by
        cases hq : Nat.blt t n with
        | false => rfl
        | true => exact absurd (by simpa [Nat.blt_eq] using hq) ht
      simp only [Act.eval, ev, hb, cond_false]
      rw [Array.getD_eq_getD_getElem?, Array.getElem?_eq_none (Nat.le_trans (Nat.le_of_eq h.size) (Nat.le_of_not_lt ht))]; rfl
  | const v => rfl
  | global g => rfl
  | func f => rfl

theorem FR.put {n : Nat} {ρ : Nat → Value} {a : Act} (h : FR n ρ a) (dst : Option Tmp) (v : Value) : FR n (updO ρ dst v) (a.put dst v) := by
  cases dst with
  | none => exact h
  | some d =>
    refine ⟨h.defers, by simpa [Act.put] using h.size, fun t ht => ?_⟩
    simp only [Act.put, updO, Array.getElem?_setIfInBounds]
    by_cases e : d = t
    · subst e
      rw [if_pos rfl, if_pos (by rw [h.size]; exact ht), upd_same]
    · rw [if_neg e, upd_ne _ _ (fun x => e x.symm)]
      exact h.at_ t ht

/-- What an operation that went before has yielded, for a guard. -/
def yl (n : Nat) (ops : Array Oper) (ρ : Nat → Value) (j : Nat) : Option Bool :=
  match ((ops[j]?).bind (·.dst)) with
  | some t => bif Nat.blt t n then (match ρ t with | .bool b => some b | _ => none) else none
  | none => none

theorem FR.yielded {n : Nat} {ρ : Nat → Value} {a : Act} (h : FR n ρ a) (ops : Array Oper) : yielded ops a.tmps = yl n ops ρ := by
  funext j
  unfold Go.yielded yl
  cases hd : (ops[j]?).bind (·.dst) with
  | none => simp
  | some t =>
    simp only [Option.bind_some]
    by_cases ht : t < n
    · have hb : Nat.blt t n = true := by simpa [Nat.blt_eq] using ht
      rw [h.at_ t ht, hb]
      cases ρ t <;> rfl
    · have hb : Nat.blt t n = false := by
        cases hq : Nat.blt t n with
        | false => rfl
        | true => exact absurd (by simpa [Nat.blt_eq] using hq) ht
      rw [hb, Array.getElem?_eq_none (Nat.le_trans (Nat.le_of_eq h.size) (Nat.le_of_not_lt ht))]
      rfl

/-! ### Memory -/
inductive Ent where
  | blk (b : Nat) (cs : List Value) (T : TypeId) (fz : Nat × Nat)
  | row (a : Option Nat) (cap n : Nat) (T : TypeId) (size : Nat) (xs : List Value)

/-- A slice that is nil or begins at the head of a block. -/
def rowV (a : Option Nat) (n cap : Nat) : Value := .slice (a.map fun g => ⟨g, 0, none⟩) n cap

def Ent.fp : Ent → Option Nat
  | .blk b _ _ _ => some b
  | .row a _ _ _ _ _ => a

def Ent.ok (w : World) : Ent → Prop
  | .blk b cs T fz => w.heap[b]? = some (.cells cs.toArray T fz)
  | .row a cap n T size xs => w.ownsRow 0 T size (rowV a n cap) n xs

theorem rowV_own (a : Option Nat) (n cap : Nat) : (rowV a n cap).ownBlock = a := by cases a <;> rfl

theorem Ent.ok_lt {w : World} {x : Ent} (h : x.ok w) {b : Nat} (hb : x.fp = some b) : b < w.heap.size := by
  cases x with
  | blk b' cs T fz =>
    simp only [Ent.fp, Option.some.injEq] at hb
    subst hb
    exact (Array.getElem?_eq_some_iff.1 h).1
  | row a cap n T size xs => exact (World.ownsRow.lt h b (by rw [rowV_own]; exact hb)).2

/-- An entry looks at its own block alone. -/
theorem Ent.ok_of_same {w w' : World} {x : Ent} (h : x.ok w) (hs : ∀ b, x.fp = some b → w'.heap[b]? = w.heap[b]?) : x.ok w' := by
  cases x with
  | blk b cs T fz => exact (hs b rfl).trans h
  | row a cap n T size xs =>
    refine ⟨h.1, ?_⟩
    rcases h.2 with hn | ⟨g, cap', cur, hv, hb, hgg, rest⟩
    · exact .inl hn
    · have ha : a = some g := by
        have := congrArg Value.ownBlock hv
        rw [rowV_own] at this
        exact this
      exact .inr ⟨g, cap', cur, hv, hb, (hs g ha).trans hgg, rest⟩

/-- The worlds of a call that began in w0, may turn the blocks E, and owns L. -/
structure Cl (w0 : World) (E : List Nat) (L : List Ent) (w : World) : Prop where
  os : w.os = w0.os
  tape : w.tape = w0.tape
  output : w.output = w0.output
  size : w0.heap.size ≤ w.heap.size
  old : ∀ k, k < w0.heap.size → k ∉ E → w.heap[k]? = w0.heap[k]?
  own : ∀ x ∈ L, x.ok w
  new : ∀ x ∈ L, ∀ b, x.fp = some b → w0.heap.size ≤ b ∨ b ∈ E
  nodup : (L.filterMap Ent.fp).Nodup

theorem Cl.refl (w : World) : Cl w [] [] w :=
  ⟨rfl, rfl, rfl, Nat.le_refl _, fun _ _ _ => rfl, fun _ h => (by cases h), fun _ h => (by cases h), (by simp)⟩

theorem Cl.drew {w0 : World} {E : List Nat} {L : List Ent} {w : World} (h : Cl w0 E L w) (d : Nat) : Cl w0 E L { w with drawn := d } :=
  ⟨h.os, h.tape, h.output, h.size, h.old, fun x hx => Ent.ok_of_same (h.own x hx) (fun _ _ => rfl), h.new, h.nodup⟩

theorem Cl.below {w0 : World} {L : List Ent} {w : World} (h : Cl w0 [] L w) : RowKit.Below w0.heap.size w0 w :=
  ⟨h.os, h.tape, h.output, h.size, fun k hk => h.old k hk (by simp)⟩

theorem Cl.of_below {w0 w : World} (h : RowKit.Below w0.heap.size w0 w) : Cl w0 [] [] w :=
  ⟨h.os, h.tape, h.output, h.size, fun k hk _ => h.block k hk, fun _ h => (by cases h), fun _ h => (by cases h), (by simp)⟩

/-- Fewer things known. -/
theorem Cl.sub {w0 : World} {E : List Nat} {L L' : List Ent} {w : World} (h : Cl w0 E L w) (hs : L'.Sublist L) : Cl w0 E L' w :=
  ⟨h.os, h.tape, h.output, h.size, h.old, fun x hx => h.own x (hs.subset hx), fun x hx => h.new x (hs.subset hx), h.nodup.sublist (hs.filterMap _)⟩

/-- An old block that is not lent is as it was. -/
theorem Cl.cell {w0 : World} {E : List Nat} {L : List Ent} {w : World} (h : Cl w0 E L w) {p : Addr} (hp : p.block < w0.heap.size) (hE : p.block ∉ E) : w.cell? p = w0.cell? p :=
  World.cell?_of_block (h.old _ hp hE)

theorem Cl.heap {w0 : World} {E : List Nat} {L : List Ent} {w : World} (h : Cl w0 E L w) {b : Nat} {cs : List Value} {T : TypeId} {fz : Nat × Nat} (hb : Ent.blk b cs T fz ∈ L) :
    w.heap[b]? = some (.cells cs.toArray T fz) := h.own _ hb

/-! ### What a call leaves: an inner class within an outer one -/
/-- Behind a call that turned nothing of ours, and left new things L1. -/
theorem Cl.call {w0 : World} {E : List Nat} {L L1 : List Ent} {w w' : World} (h : Cl w0 E L w) (h1 : Cl w [] L1 w') : Cl w0 E (L1 ++ L) w' := by
  have hb := h1.below
  have hsame : ∀ x ∈ L, ∀ b, x.fp = some b → w'.heap[b]? = w.heap[b]? := fun x hx b hxb => h1.old b (Ent.ok_lt (h.own x hx) hxb) (by simp)
  refine ⟨h1.os.trans h.os, h1.tape.trans h.tape, h1.output.trans h.output, Nat.le_trans h.size h1.size, fun k hk hE => (h1.old k (Nat.lt_of_lt_of_le hk h.size) (by simp)).trans (h.old k hk hE), ?_, ?_, ?_⟩
  · intro x hx
    rcases List.mem_append.1 hx with hx | hx
    · exact h1.own x hx
    · exact Ent.ok_of_same (h.own x hx) (hsame x hx)
  · intro x hx b hxb
    rcases List.mem_append.1 hx with hx | hx
    · rcases h1.new x hx b hxb with hn | hn
      · exact .inl (Nat.le_trans h.size hn)
      · simp at hn
    · exact h.new x hx b hxb
  · rw [List.filterMap_append, List.nodup_append]
    refine ⟨h1.nodup, h.nodup, ?_⟩
    intro b hb1 c hc hbc
    subst hbc
    obtain ⟨x, hx, hxb⟩ := List.mem_filterMap.1 hb1
    obtain ⟨y, hy, hyb⟩ := List.mem_filterMap.1 hc
    rcases h1.new x hx b hxb with hn | hn
    · have := Ent.ok_lt (h.own y hy) hyb
      omega
    · simp at hn

/-- One block among ours has another content. -/
inductive Put (x y : Ent) : List Ent → List Ent → Prop where
  | head {L : List Ent} : Put x y (x :: L) (y :: L)
  | tail {z : Ent} {L L' : List Ent} : Put x y L L' → Put x y (z :: L) (z :: L')

theorem Put.mem {x y : Ent} {L L' : List Ent} (h : Put x y L L') : x ∈ L := by
  induction h with
  | head => simp
  | tail _ ih => exact List.mem_cons_of_mem _ ih

theorem Put.sub {x y : Ent} {L L' : List Ent} (h : Put x y L L') : ∀ z ∈ L', z = y ∨ z ∈ L := by
  induction h with
  | head => intro z hz; rcases List.mem_cons.1 hz with rfl | hz; exact .inl rfl; exact .inr (List.mem_cons_of_mem _ hz)
  | tail _ ih =>
    intro z hz
    rcases List.mem_cons.1 hz with rfl | hz
    · exact .inr (by simp)
    · rcases ih z hz with h | h
      · exact .inl h
      · exact .inr (List.mem_cons_of_mem _ h)

theorem Put.fps {x y : Ent} {L L' : List Ent} (h : Put x y L L') (hf : y.fp = x.fp) : L'.filterMap Ent.fp = L.filterMap Ent.fp := by
  induction h with
  | head => simp only [List.filterMap_cons, hf]
  | tail _ ih => simp only [List.filterMap_cons, ih]

/-- What stands beside the entry that is turned has another block. -/
theorem Put.apart {x y : Ent} {L L' : List Ent} (h : Put x y L L') (hn : (L.filterMap Ent.fp).Nodup) {b : Nat} (hb : x.fp = some b) : ∀ z ∈ L', z = y ∨ (z ∈ L ∧ z.fp ≠ some b) := by
  induction h with
  | @head L =>
    intro z hz
    rcases List.mem_cons.1 hz with rfl | hz
    · exact .inl rfl
    · refine .inr ⟨List.mem_cons_of_mem _ hz, fun hzb => ?_⟩
      simp only [List.filterMap_cons, hb, List.nodup_cons] at hn
      exact hn.1 (List.mem_filterMap.2 ⟨z, hz, hzb⟩)
  | @tail u L L' h' ih =>
    intro z hz
    have hn' : (L.filterMap Ent.fp).Nodup := by
      simp only [List.filterMap_cons] at hn
      cases hu : u.fp with
      | none => simpa [hu] using hn
      | some c => rw [hu] at hn; exact (List.nodup_cons.1 hn).2
    rcases List.mem_cons.1 hz with rfl | hz
    · refine .inr ⟨by simp, fun hzb => ?_⟩
      simp only [List.filterMap_cons, hzb, List.nodup_cons] at hn
      exact hn.1 (List.mem_filterMap.2 ⟨x, h'.mem, hb⟩)
    · rcases ih hn' z hz with h | h
      · exact .inl h
      · exact .inr ⟨List.mem_cons_of_mem _ h.1, h.2⟩

theorem Cl.put {w0 : World} {E : List Nat} {L L' : List Ent} {w w' : World} {x y : Ent} {b : Nat} (h : Cl w0 E L w) (hp : Put x y L L') (hb : x.fp = some b) (hf : y.fp = x.fp)
    (hos : w'.os = w.os) (ht : w'.tape = w.tape) (ho : w'.output = w.output) (hs : w'.heap.size = w.heap.size) (hk : ∀ k, k ≠ b → w'.heap[k]? = w.heap[k]?) (hy : y.ok w') : Cl w0 E L' w' := by
  have hnew := h.new x hp.mem b hb
  refine ⟨hos.trans h.os, ht.trans h.tape, ho.trans h.output, by rw [hs]; exact h.size, fun k hk0 hkE => ?_, ?_, ?_, ?_⟩
  · have hne : k ≠ b := fun e => by
      subst e
      rcases hnew with h1 | h1
      · omega
      · exact hkE h1
    exact (hk k hne).trans (h.old k hk0 hkE)
  · intro z hz
    rcases hp.apart h.nodup hb z hz with rfl | ⟨hz, hzb⟩
    · exact hy
    · exact Ent.ok_of_same (h.own z hz) (fun c hc => hk c (fun e => hzb (e ▸ hc)))
  · intro z hz c hc
    rcases hp.sub z hz with rfl | hz
    · rw [hf, hb] at hc
      cases hc
      exact hnew
    · exact h.new z hz c hc
  · rw [hp.fps hf]; exact h.nodup

theorem Cl.alloc {w0 : World} {E : List Nat} {L : List Ent} {w : World} (h : Cl w0 E L w) (cs : Array Value) (T : TypeId) :
    Cl w0 E (.blk w.heap.size cs.toList T (0, 0) :: L) { w with heap := w.heap.push (.cells cs T) } := by
  have hsame : ∀ k, k < w.heap.size → (w.heap.push (.cells cs T))[k]? = w.heap[k]? := fun k hk => by rw [Array.getElem?_push, if_neg (by omega)]
  refine ⟨h.os, h.tape, h.output, by simp; have := h.size; omega, fun k hk hE => (hsame k (Nat.lt_of_lt_of_le hk h.size)).trans (h.old k hk hE), ?_, ?_, ?_⟩
  · intro x hx
    rcases List.mem_cons.1 hx with rfl | hx
    · simp [Ent.ok]
    · exact Ent.ok_of_same (h.own x hx) (fun b hb => hsame b (Ent.ok_lt (h.own x hx) hb))
  · intro x hx b hb
    rcases List.mem_cons.1 hx with rfl | hx
    · simp only [Ent.fp, Option.some.injEq] at hb
      subst hb
      exact .inl h.size
    · exact h.new x hx b hb
  · simp only [List.filterMap_cons, Ent.fp, List.nodup_cons]
    refine ⟨fun hm => ?_, h.nodup⟩
    obtain ⟨y, hy, hyb⟩ := List.mem_filterMap.1 hm
    have := Ent.ok_lt (h.own y hy) hyb
    omega

end Go.WL
