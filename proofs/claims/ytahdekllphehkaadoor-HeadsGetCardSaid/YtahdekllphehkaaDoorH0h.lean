/- What is read, as total functions; heads that are signed as cells; no statement of the seat is proved here. -/
import Derived.Test.YtahdekllphehkaaDoorMQh
import Derived.Test.YtahdekllphehkaaDoorL17h
set_option linter.unusedVariables false
set_option linter.unusedSimpArgs false
namespace Go.Proofs.YtahdekllphehkaaDoor
open Go.WL Go.Spec
/-! ### numbers -/
def readF (s : Bytes) : Nat × Bytes × Bool := match readB s with
  | none => (0, [], false)
  | some (n, r) => (n, r, true)
theorem readF_none {s : Bytes} (h : readB s = none) : readF s = (0, [], false) := by unfold readF; rw [h]
theorem readF_some {s r : Bytes} {n : Nat} (h : readB s = some (n, r)) : readF s = (n, r, true) := by unfold readF; rw [h]
theorem readF_lt (s : Bytes) : (readF s).1 < 18446744073709551616 := by
  cases h : readB s with
  | none => rw [readF_none h]; decide
  | some p => obtain ⟨n, r⟩ := p; rw [readF_some h]; exact (num_read h).2
theorem readF_len (s : Bytes) : (readF s).2.1.length ≤ s.length := by
  cases h : readB s with
  | none => rw [readF_none h]; exact Nat.zero_le _
  | some p =>
    obtain ⟨n, r⟩ := p
    rw [readF_some h]
    have := congrArg List.length (num_read h).1
    rw [List.length_append] at this
    show r.length ≤ _
    omega
def readV (s : Bytes) : Value := .tuple #[U64 (UInt64.ofNat (readF s).1), .string (bs (readF s).2.1), .bool (readF s).2.2]
theorem readV_none {s : Bytes} (h : readB s = none) : readV s = .tuple #[U64 0, .string (bs []), .bool false] := by unfold readV; rw [readF_none h]; rfl
theorem readV_some {s r : Bytes} {n : Nat} (h : readB s = some (n, r)) : readV s = .tuple #[U64 (UInt64.ofNat n), .string (bs r), .bool true] := by unfold readV; rw [readF_some h]
theorem u64_nat {n : Nat} (h : n < 18446744073709551616) : (UInt64.ofNat n).toNat = n := by rw [UInt64.toNat_ofNat']; omega
theorem shl7 (x : UInt64) (c : UInt8) (h : x.toNat < 144115188075855872) : ((x <<< UInt64.ofNat 7) ||| (c &&& 127).toUInt64) = UInt64.ofNat (x.toNat * 128 + c.toNat % 128) := by
  have hc := c.toNat_lt
  apply UInt64.toNat_inj.1
  rw [UInt64.toNat_or, UInt64.toNat_shiftLeft, UInt8.toNat_toUInt64, UInt8.toNat_and, u64_nat (show x.toNat * 128 + c.toNat % 128 < 18446744073709551616 by omega)]
  have e1 : (UInt64.ofNat 7).toNat % 64 = 7 := by decide
  have e2 : c.toNat &&& (127 : UInt8).toNat = c.toNat % 128 := Nat.and_two_pow_sub_one_eq_mod c.toNat 7
  rw [e1, e2, Nat.shiftLeft_eq, Nat.mod_eq_of_lt (by omega)]
  have := Nat.two_pow_add_eq_or_of_lt (i := 7) (b := c.toNat % 128) (by omega) x.toNat
  rw [Nat.mul_comm]
  exact this.symm
theorem valB_mod (l : Bytes) (c : UInt8) : UInt64.ofNat (valB l) * 128 + (c % 128).toUInt64 = UInt64.ofNat (valB (l ++ [c])) := by
  have hc := c.toNat_lt
  rw [valB_snoc]
  apply UInt64.toNat_inj.1
  rw [UInt64.toNat_add, UInt64.toNat_mul, UInt64.toNat_ofNat', UInt64.toNat_ofNat', UInt8.toNat_toUInt64, UInt8.toNat_mod]
  show (valB l % 18446744073709551616 * 128 % 18446744073709551616 + c.toNat % 128) % 18446744073709551616 = (valB l * 128 + c.toNat % 128) % 18446744073709551616
  omega
/-- A number's bytes: all but the last one have more behind them. -/
theorem numB_form (n : Nat) : ∃ l c, numB n = l ++ [c] ∧ (∀ x ∈ l, 128 ≤ x.toNat) ∧ c.toNat < 128 := by
  rcases Nat.lt_or_ge n 128 with h | h
  · exact ⟨[], UInt8.ofNat n, by rw [numB_small h]; rfl, (by simp), by rw [u8_nat (by omega)]; exact h⟩
  · exact ⟨aheadB (n / 128), UInt8.ofNat (n % 128), by rw [numB_more (by omega)], aheadB_hi _, by rw [u8_nat (by omega)]; omega⟩
theorem num_first {s r : Bytes} {n k : Nat} (hn : n < 18446744073709551616) (e : s = numB n ++ r) (hk : ∀ j, j < k → 128 ≤ (s.getD j 0).toNat) (hk2 : k ≤ 10)
    (hend : ¬ ((k < s.length ∧ k < 10) ∧ 128 ≤ (s.getD k 0).toNat)) : k + 1 = (numB n).length := by
  have hl := numB_length hn
  obtain ⟨l, c, hf, h1, h2⟩ := numB_form n
  have hll : (numB n).length = l.length + 1 := by rw [hf]; simp
  have hs : s = l ++ c :: r := by rw [e, hf]; simp
  have hat : (s.getD l.length 0) = c := by rw [hs, List.getD_eq_getElem?_getD, List.getElem?_append_right (Nat.le_refl _)]; simp
  have hbe : ∀ j, j < l.length → 128 ≤ (s.getD j 0).toNat := by
    intro j hj
    rw [hs, List.getD_eq_getElem?_getD, List.getElem?_append_left hj, List.getElem?_eq_getElem hj]
    exact h1 _ (List.getElem_mem hj)
  have hlen : s.length = l.length + 1 + r.length := by rw [hs]; simp; omega
  rcases Nat.lt_trichotomy k l.length with h | h | h
  · exact absurd ⟨⟨by omega, by omega⟩, hbe k h⟩ hend
  · omega
  · have := hk l.length h
    rw [hat] at this
    omega
/-- What the reference reads. -/
theorem refread_some {s : Bytes} {k : Nat} (hk : k < s.length) (he : numB (valB (s.take (k + 1)) % 18446744073709551616) = s.take (k + 1)) : readB s = some (valB (s.take (k + 1)) % 18446744073709551616, s.drop (k + 1)) := by
  have := read_num (valB (s.take (k + 1)) % 18446744073709551616) (s.drop (k + 1)) (by omega)
  rwa [he, List.take_append_drop] at this
theorem refread_none {s : Bytes} {k : Nat} (hk : ∀ j, j < k → 128 ≤ (s.getD j 0).toNat) (hk2 : k ≤ 10) (hend : ¬ ((k < s.length ∧ k < 10) ∧ 128 ≤ (s.getD k 0).toNat))
    (he : s.length ≤ k ∨ 9 < k ∨ numB (valB (s.take (k + 1)) % 18446744073709551616) ≠ s.take (k + 1)) : readB s = none := by
  cases h : readB s with
  | none => rfl
  | some p =>
    obtain ⟨n, r⟩ := p
    obtain ⟨h1, h2⟩ := num_read h
    have h3 := num_first h2 h1 hk hk2 hend
    have h4 := numB_length h2
    have h5 : s.take (k + 1) = numB n := by rw [h1, h3, List.take_left]
    have h6 : s.length = (numB n).length + r.length := by rw [h1, List.length_append]
    rw [h5, valB_num, Nat.mod_eq_of_lt h2] at he
    rcases he with he | he | he
    · omega
    · omega
    · exact absurd rfl he
/-! ### texts, hashes, lists -/
def cutF (s : Bytes) : Bytes × Bytes × Bool := match cutB s with
  | none => ([], [], false)
  | some (a, r) => (a, r, true)
theorem cutF_none {s : Bytes} (h : cutB s = none) : cutF s = ([], [], false) := by unfold cutF; rw [h]
theorem cutF_some {s a r : Bytes} (h : cutB s = some (a, r)) : cutF s = (a, r, true) := by unfold cutF; rw [h]
theorem cutF_len (s : Bytes) : (cutF s).1.length ≤ s.length ∧ (cutF s).2.1.length ≤ s.length := by
  cases h : cutB s with
  | none => rw [cutF_none h]; exact ⟨Nat.zero_le _, Nat.zero_le _⟩
  | some p =>
    obtain ⟨a, r⟩ := p
    rw [cutF_some h]
    have := congrArg List.length (text_cut h).1
    rw [List.length_append, textB_eq, List.length_append] at this
    show a.length ≤ _ ∧ r.length ≤ _
    omega
def cutV (s : Bytes) : Value := .tuple #[.string (bs (cutF s).1), .string (bs (cutF s).2.1), .bool (cutF s).2.2]
theorem cutB_eq (s : Bytes) : cutB s = match readB s with
  | none => none
  | some (n, r) => if r.length < n then none else some (r.take n, r.drop n) := by unfold cutB; rfl
theorem cutF_read (s : Bytes) : cutF s = if (readF s).2.2 = true ∧ (readF s).1 ≤ (readF s).2.1.length then ((readF s).2.1.take (readF s).1, (readF s).2.1.drop (readF s).1, true) else ([], [], false) := by
  cases h : readB s with
  | none => rw [readF_none h, if_neg (by simp)]; unfold cutF; rw [cutB_eq, h]
  | some p =>
    obtain ⟨n, r⟩ := p
    rw [readF_some h]
    unfold cutF
    rw [cutB_eq, h]
    simp only
    by_cases hl : r.length < n
    · rw [if_pos hl, if_neg (by simp; omega)]
    · rw [if_neg hl, if_pos ⟨by first | rfl | trivial, by omega⟩]
def unhashF (s : Bytes) : Hash × Bytes × Bool := if s.length < 32 then (zeroHash, [], false) else (toH (s.take 32), s.drop 32, true)
theorem unhashF_len (s : Bytes) : (unhashF s).2.1.length ≤ s.length := by
  unfold unhashF
  split
  · exact Nat.zero_le _
  · simp
theorem unhashV_F (s : Bytes) : unhashV s = .tuple #[HV (unhashF s).1, .string (bs (unhashF s).2.1), .bool (unhashF s).2.2] := by
  unfold unhashF
  split
  · rename_i h; rw [unhashV_short h]
  · rename_i h; rw [unhashV_long (by omega)]
theorem unhashB_F (s : Bytes) : unhashB s = if (unhashF s).2.2 = true then some ((unhashF s).1, (unhashF s).2.1) else none := by
  unfold unhashB unhashF
  split <;> simp
def unhashesF (s : Bytes) : List Hash × Bytes × Bool := match unhashesB s with
  | none => ([], [], false)
  | some (l, r) => (l, r, true)
theorem unhashesF_none {s : Bytes} (h : unhashesB s = none) : unhashesF s = ([], [], false) := by unfold unhashesF; rw [h]
theorem unhashesF_some {s r : Bytes} {l : List Hash} (h : unhashesB s = some (l, r)) : unhashesF s = (l, r, true) := by unfold unhashesF; rw [h]
theorem unhashesF_len (s : Bytes) : (unhashesF s).1.length ≤ 64 ∧ (unhashesF s).2.1.length ≤ s.length := by
  cases h : unhashesB s with
  | none => rw [unhashesF_none h]; exact ⟨by decide, Nat.zero_le _⟩
  | some p =>
    obtain ⟨l, r⟩ := p
    rw [unhashesF_some h]
    obtain ⟨h1, h2⟩ := hashes_unhashes h
    have := congrArg List.length h1
    rw [List.length_append] at this
    refine ⟨h2, ?_⟩
    show r.length ≤ _
    omega
theorem unhashesB_eq (s : Bytes) : unhashesB s = match readB s with
  | none => none
  | some (n, r) => if 64 < n then none else takeH n r := by unfold unhashesB; rfl
theorem takeH_zero (s : Bytes) : takeH 0 s = some ([], s) := by rw [takeH]
theorem takeH_short {n : Nat} {s : Bytes} (h : s.length < 32) : takeH (n + 1) s = none := by
  rw [takeH]
  have : unhashB s = none := by unfold unhashB; rw [if_pos h]
  rw [this]
theorem takeH_long {n : Nat} {s : Bytes} (h : 32 ≤ s.length) : takeH (n + 1) s = (takeH n (s.drop 32)).map fun p => (toH (s.take 32) :: p.1, p.2) := by
  rw [takeH]
  have : unhashB s = some (toH (s.take 32), s.drop 32) := by unfold unhashB; rw [if_neg (by omega)]
  rw [this]
  simp only
  cases takeH n (s.drop 32) with
  | none => rfl
  | some p => rfl
/-- Some hashes being taken. -/
theorem takeH_more {n : Nat} {s : Bytes} {l : List Hash} (h : 32 ≤ s.length) : (takeH (n + 1) s).map (fun p => (l ++ p.1, p.2)) = (takeH n (s.drop 32)).map (fun p => ((l ++ [toH (s.take 32)]) ++ p.1, p.2)) := by
  rw [takeH_long h, Option.map_map]
  congr 1
  funext p
  simp
theorem takeH_len : ∀ (n : Nat) (s : Bytes), (takeH n s).isSome = decide (32 * n ≤ s.length)
  | 0, s => by rw [takeH_zero]; simp
  | n + 1, s => by
    rcases Nat.lt_or_ge s.length 32 with h | h
    · rw [takeH_short h]
      simp; omega
    · rw [takeH_long h, Option.isSome_map, takeH_len n]
      simp
      omega
theorem hashesB_eq (l : List Hash) : hashesB l = if 64 < l.length then [] else numB l.length ++ l.flatMap hb := by unfold hashesB; rfl
/-! ### heads as cells -/
instance : DecidableEq Sg := fun a b =>
  if h : a.size = b.size ∧ a.root = b.root ∧ a.index = b.index ∧ a.sig = b.sig ∧ a.path = b.path then isTrue (by cases a; cases b; simp_all) else isFalse fun e => h (by subst e; exact ⟨rfl, rfl, rfl, rfl, rfl⟩)
theorem sg_ext {a b : Sg} : a = b ↔ a.size = b.size ∧ a.root = b.root ∧ a.index = b.index ∧ a.sig = b.sig ∧ a.path = b.path := by
  constructor
  · intro e; subst e; exact ⟨rfl, rfl, rfl, rfl, rfl⟩
  · intro h; cases a; cases b; simp_all
def sealC (s : Sg) (v : Value) : List Value := [.int .i64 s.index, .string (bs s.sig), v]
def sgC (s : Sg) (v : Value) : List Value := headC s.size s.root ++ sealC s v
theorem sgC_length (s : Sg) (v : Value) : (sgC s v).length = 36 := by unfold sgC; rw [List.length_append, headC_length]; rfl
theorem sg_r (s : Sg) (v : Value) (k : Nat) : (sgC s v)[33 + k]? = (sealC s v)[k]? := by
  unfold sgC
  rw [List.getElem?_append_right (by rw [headC_length]; omega), headC_length]
  congr 1; omega
theorem sg_0 (s : Sg) (v : Value) : (sgC s v)[0]? = some (.int .i64 s.size) := rfl
theorem sg_33 (s : Sg) (v : Value) : (sgC s v)[33]? = some (.int .i64 s.index) := sg_r s v 0
theorem sg_34 (s : Sg) (v : Value) : (sgC s v)[34]? = some (.string (bs s.sig)) := sg_r s v 1
theorem sg_35 (s : Sg) (v : Value) : (sgC s v)[35]? = some v := sg_r s v 2
theorem sg_head (s : Sg) (v : Value) (j : Nat) (u : Value) (h : (headC s.size s.root)[j]? = some u) : (sgC s v)[0 + j]? = some u := by
  have hj : j < (headC s.size s.root).length := by
    rcases Nat.lt_or_ge j (headC s.size s.root).length with h1 | h1
    · exact h1
    · rw [List.getElem?_eq_none h1] at h; cases h
  unfold sgC
  rw [Nat.zero_add, List.getElem?_append_left hj]; exact h
theorem sg_root (s : Sg) (v : Value) (j : Nat) (u : Value) (h : (hc s.root)[j]? = some u) : (sgC s v)[1 + j]? = some u := by
  rw [Nat.add_comm]
  have := sg_head s v (j + 1) u (by unfold headC; rw [List.getElem?_cons_succ]; exact h)
  rwa [Nat.zero_add] at this
theorem sg_seal (s : Sg) (v : Value) (j : Nat) (u : Value) (h : (sealC s v)[j]? = some u) : (sgC s v)[33 + j]? = some u := by rw [sg_r]; exact h
theorem hd_0 (m : Int) (g : Hash) : (headC m g)[0]? = some (.int .i64 m) := rfl
theorem hd_root (m : Int) (g : Hash) (j : Nat) (u : Value) (h : (hc g)[j]? = some u) : (headC m g)[1 + j]? = some u := by
  unfold headC; rw [Nat.add_comm, List.getElem?_cons_succ]; exact h
def SgV (s : Sg) (v : Value) : Value := .agg (sgC s v).toArray
def HdV (m : Int) (g : Hash) : Value := .agg (headC m g).toArray
/-- A signed head that was handed out. -/
def OutSg (u : Value) (L1 : List Ent) (s : Sg) : Prop := ∃ v, u = SgV s v ∧ OutHs v L1 s.path
def putR (s : Sg) : Bytes := if s.valid then headB s else []
def putE (s : Sg) : Int := if s.valid then 0 else 2
theorem putR_ok {s : Sg} (h : s.valid) : putR s = headB s := if_pos h
theorem putR_not {s : Sg} (h : ¬ s.valid) : putR s = [] := if_neg h
theorem putE_ok {s : Sg} (h : s.valid) : putE s = 0 := if_pos h
theorem putE_not {s : Sg} (h : ¬ s.valid) : putE s = 2 := if_neg h
theorem putR_len (s : Sg) : (putR s).length ≤ 16600 := by
  by_cases h : s.valid
  · rw [putR_ok h]; exact (headB_length h).2
  · rw [putR_not h]; exact Nat.zero_le _
theorem headB_eq (s : Sg) : headB s = numB s.size.toNat ++ hb s.root ++ numB s.index.toNat ++ textB s.sig ++ hashesB s.path := by unfold headB; rfl
def getR (t : Bytes) : Sg := (getS t).getD Sg.none
def getI (t : Bytes) : Int := if (getS t).isSome then 0 else 10
theorem getR_some {t : Bytes} {s : Sg} (h : getS t = some s) : getR t = s ∧ getI t = 0 := by unfold getR getI; rw [h]; exact ⟨rfl, rfl⟩
theorem getR_none {t : Bytes} (h : getS t = none) : getR t = Sg.none ∧ getI t = 10 := by unfold getR getI; rw [h]; exact ⟨rfl, rfl⟩
/-- Bytes as they are read, one thing behind the other. -/
structure Flds where
  n : Nat
  a : Bool
  h : Hash
  b : Bool
  i : Nat
  c : Bool
  s : Bytes
  d : Bool
  p : List Hash
  e : Bool
  r : Bytes
def fldsF (t : Bytes) : Flds :=
  let x1 := readF t
  let x2 := unhashF x1.2.1
  let x3 := readF x2.2.1
  let x4 := cutF x3.2.1
  let x5 := unhashesF x4.2.1
  ⟨x1.1, x1.2.2, x2.1, x2.2.2, x3.1, x3.2.2, x4.1, x4.2.2, x5.1, x5.2.2, x5.2.1⟩
def Flds.all (f : Flds) : Prop := (((f.a = true ∧ f.b = true) ∧ f.c = true) ∧ f.d = true) ∧ f.e = true
instance (f : Flds) : Decidable f.all := by unfold Flds.all; exact inferInstance
theorem fields_F (t : Bytes) : fieldsB t = if (fldsF t).all then some ((fldsF t).n, (fldsF t).h, (fldsF t).i, (fldsF t).s, (fldsF t).p, (fldsF t).r) else none := by
  unfold fieldsB Flds.all fldsF
  simp only
  cases e1 : readB t with
  | none => rw [readF_none e1]; simp
  | some x =>
    obtain ⟨n, r1⟩ := x
    rw [readF_some e1]
    simp only
    rw [unhashB_F]
    by_cases e2 : (unhashF r1).2.2 = true
    · rw [if_pos e2]
      simp only [e2]
      cases e3 : readB (unhashF r1).2.1 with
      | none => rw [readF_none e3]; simp
      | some x =>
        obtain ⟨i, r3⟩ := x
        rw [readF_some e3]
        simp only
        cases e4 : cutB r3 with
        | none => rw [cutF_none e4]; simp
        | some x =>
          obtain ⟨s, r4⟩ := x
          rw [cutF_some e4]
          simp only
          cases e5 : unhashesB r4 with
          | none => rw [unhashesF_none e5]; simp
          | some x =>
            obtain ⟨p, r5⟩ := x
            rw [unhashesF_some e5]
            simp
    · rw [if_neg e2]
      simp [e2]
def Flds.sg (f : Flds) : Sg := ⟨small f.n, f.h, small f.i, f.s, f.p⟩
theorem getS_F (t : Bytes) : getS t = if ((fldsF t).all ∧ (fldsF t).r = []) ∧ (fldsF t).sg.valid then some (fldsF t).sg else none := by
  unfold getS
  rw [fields_F]
  by_cases h : (fldsF t).all
  · rw [if_pos h]
    simp only
    by_cases h2 : (fldsF t).r = [] ∧ Sg.valid ⟨small (fldsF t).n, (fldsF t).h, small (fldsF t).i, (fldsF t).s, (fldsF t).p⟩
    · rw [if_pos h2, if_pos ⟨⟨h, h2.1⟩, h2.2⟩]; rfl
    · rw [if_neg h2, if_neg fun h3 => h2 ⟨h3.1.2, h3.2⟩]
  · rw [if_neg h, if_neg fun h3 => h h3.1.1]
/-- What the reference makes of it. -/
theorem getS_R (t : Bytes) : getS t = if ((fldsF t).all ∧ (fldsF t).n ≤ 4096 ∧ (fldsF t).i ≤ 7) ∧ Sg.valid ⟨(fldsF t).n, (fldsF t).h, (fldsF t).i, (fldsF t).s, (fldsF t).p⟩ ∧ headB ⟨(fldsF t).n, (fldsF t).h, (fldsF t).i, (fldsF t).s, (fldsF t).p⟩ = t then
    some ⟨(fldsF t).n, (fldsF t).h, (fldsF t).i, (fldsF t).s, (fldsF t).p⟩ else none := by
  by_cases hc : ((fldsF t).all ∧ (fldsF t).n ≤ 4096 ∧ (fldsF t).i ≤ 7) ∧ Sg.valid ⟨(fldsF t).n, (fldsF t).h, (fldsF t).i, (fldsF t).s, (fldsF t).p⟩ ∧ headB ⟨(fldsF t).n, (fldsF t).h, (fldsF t).i, (fldsF t).s, (fldsF t).p⟩ = t
  · rw [if_pos hc]
    exact getS_iff.2 ⟨hc.2.1, hc.2.2.symm⟩
  · rw [if_neg hc]
    cases e : getS t with
    | none => rfl
    | some s =>
      exfalso
      apply hc
      obtain ⟨h1, h2⟩ := getS_iff.1 e
      rw [getS_F] at e
      split at e
      · rename_i h3
        simp only [Option.some.injEq] at e
        obtain ⟨⟨h4, h5⟩, h6⟩ := h3
        obtain ⟨v1, v2, v3, v4, v5, v6⟩ := id h1
        have es : s.size = small (fldsF t).n := by rw [← e]; rfl
        have ei : s.index = small (fldsF t).i := by rw [← e]; rfl
        have n1 : small (fldsF t).n = ((fldsF t).n : Int) := small_of (by omega)
        have n2 : small (fldsF t).i = ((fldsF t).i : Int) := small_of (by omega)
        have hs : s = ⟨(fldsF t).n, (fldsF t).h, (fldsF t).i, (fldsF t).s, (fldsF t).p⟩ := by
          rw [← e, ← n1, ← n2]; rfl
        rw [← hs]
        exact ⟨⟨h4, by omega, by omega⟩, h1, h2.symm⟩
      · cases e
theorem small_eq (n : Nat) : small n = (min n 1073741824 : Nat) := by unfold small; rfl
theorem digestL_eq (m : Int) (g : Hash) : digestL m g = sha ([5] ++ putB (UInt64.ofNat m.toNat) 8 ++ hb g) := by unfold digestL; rfl
end Go.Proofs.YtahdekllphehkaaDoor
