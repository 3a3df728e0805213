/- Strings as lists of bytes; no statement of the seat is proved here. -/
import Derived.Test.YtahdekllphehkaaDoorL7
namespace Go.WL
open Go.Spec
set_option linter.unusedVariables false
set_option linter.unusedSimpArgs false
section
variable {P : Program} {n : Nat} {w0 : World} {E : List Nat} {o : Oper} {ρ : Nat → Value} {L : List Ent}
theorem bs_surj (s : ByteArray) : ∃ l, s = bs l := ⟨s.data.toList, (bs_of s).symm⟩
theorem yq_add_bs {t t' : TypeId} {x y : Operand} {a b : Bytes} (h : o.op = .binOp .add t x y t') (hx : ev n ρ x = .string (bs a)) (hy : ev n ρ y = .string (bs b)) (hr : a.length + b.length ≤ 9223372036854775807) : Yq P n w0 E o ρ L (.string (bs (a ++ b))) := by
  have := yq_add_str (P := P) (w0 := w0) (E := E) (L := L) h hx hy hr
  rwa [bs_append] at this
theorem yq_eql_bs {t t' : TypeId} {x y : Operand} {a b : Bytes} (h : o.op = .binOp .eql t x y t') (hx : ev n ρ x = .string (bs a)) (hy : ev n ρ y = .string (bs b)) : Yq P n w0 E o ρ L (.bool (decide (a = b))) := by
  have := yq_eql_str (P := P) (w0 := w0) (E := E) (L := L) h hx hy
  rwa [show decide (bs a = bs b) = decide (a = b) from by simp [bs_inj]] at this
theorem yq_neq_bs {t t' : TypeId} {x y : Operand} {a b : Bytes} (h : o.op = .binOp .neq t x y t') (hx : ev n ρ x = .string (bs a)) (hy : ev n ρ y = .string (bs b)) : Yq P n w0 E o ρ L (.bool (decide (a ≠ b))) := by
  have := yq_neq_str (P := P) (w0 := w0) (E := E) (L := L) h hx hy
  rwa [show decide (bs a ≠ bs b) = decide (a ≠ b) from by simp [bs_inj]] at this
theorem yq_len_bs {T : TypeId} {ats : List TypeId} {x : Operand} {a : Bytes} (h : o.op = .call ⟨.builtin .len, [x].toArray, (T :: ats).toArray⟩) (ht : tstr P T = true) (hx : ev n ρ x = .string (bs a)) : Yq P n w0 E o ρ L (.int .i64 (a.length : Int)) :=
  yq_len_str h ht hx
theorem bget_bs (a : Bytes) (k : Nat) : (bs a)[k]? = a[k]? := by
  by_cases h : k < a.length
  · rw [getElem?_pos (bs a) k h, List.getElem?_eq_getElem h]; rfl
  · rw [getElem?_neg (bs a) k h, List.getElem?_eq_none (Nat.le_of_not_lt h)]
theorem yq_index_bs {T : TypeId} {x i : Operand} {k : IntKind} {a : Bytes} {j : Int} {c : UInt8} (h : o.op = .index T x i) (hx : ev n ρ x = .string (bs a)) (hi : ev n ρ i = .int k j) (ht : tstr P T = true) (h0 : 0 ≤ j) (hv : a[j.toNat]? = some c) : Yq P n w0 E o ρ L (U8 c) :=
  yq_index_str h hx hi ht h0 (by rw [bget_bs]; exact hv)
theorem bs_extract (a : Bytes) (l h : Nat) : (bs a).extract l h = bs ((a.drop l).take (h - l)) := by
  apply ByteArray.ext
  rw [ByteArray.data_extract]
  apply Array.ext'
  rw [Array.toList_extract]
  simp [bs, List.extract_eq_take_drop]
theorem yq_slice_bs {T : TypeId} {x : Operand} {lo hi : Option Operand} {a : Bytes} {l h : Nat} (ho : o.op = .slice T x lo hi none) (hx : ev n ρ x = .string (bs a)) (ht : tstr P T = true) (hl : bnd n ρ lo 0 l) (hh : bnd n ρ hi a.length h) (h1 : l ≤ h) (h2 : h ≤ a.length) :
    Yq P n w0 E o ρ L (.string (bs ((a.drop l).take (h - l)))) := by
  have := yq_slice_str (P := P) (w0 := w0) (E := E) (L := L) ho hx ht hl hh h1 h2
  rwa [bs_extract] at this
/-- The bytes behind a place. -/
theorem yq_slice_bs_from {T : TypeId} {x : Operand} {lo : Option Operand} {a : Bytes} {l : Nat} (ho : o.op = .slice T x lo none none) (hx : ev n ρ x = .string (bs a)) (ht : tstr P T = true) (hl : bnd n ρ lo 0 l) (h1 : l ≤ a.length) :
    Yq P n w0 E o ρ L (.string (bs (a.drop l))) := by
  have := yq_slice_bs (P := P) (w0 := w0) (E := E) (L := L) (hi := none) ho hx ht hl rfl h1 (Nat.le_refl _)
  rwa [List.take_of_length_le (by simp)] at this
/-- The first bytes. -/
theorem yq_slice_bs_to {T : TypeId} {x : Operand} {hi : Option Operand} {a : Bytes} {h : Nat} (ho : o.op = .slice T x none hi none) (hx : ev n ρ x = .string (bs a)) (ht : tstr P T = true) (hh : bnd n ρ hi a.length h) (h1 : h ≤ a.length) :
    Yq P n w0 E o ρ L (.string (bs (a.take h))) := by
  have := yq_slice_bs (P := P) (w0 := w0) (E := E) (L := L) (lo := none) ho hx ht rfl hh (Nat.zero_le _) h1
  simpa using this
/-- A copy of a string that has room. -/
theorem OW.copy_bs {ops : Array Oper} {rest : List Oper} {Q : Post} {x y : Operand} {T e : TypeId} {ats : List TypeId} {b off len cap : Nat} {l : Bytes} {cs cs' : List Value} {Tb : TypeId} {L' : List Ent} {g : Bool} {by_ : Nat} {d : Tmp}
    (hw : Region.wanted o (yl n ops ρ) = true) (hd : o.dst = some d) (h : o.op = .call ⟨.builtin .copy, #[x, y], (T :: ats).toArray⟩) (hx : ev n ρ x = .slice (some ⟨b, off, none⟩) len cap) (hy : ev n ρ y = .string (bs l))
    (ht : tslice P T = some e) (ti : tinfo P e = some (1, g, by_)) (hlen : l.length ≤ len)
    (hp : Put (.blk b cs Tb (0, 0)) (.blk b cs' Tb (0, 0)) L L') (hcs : spl cs off (bc l) = cs') (hf : off + l.length ≤ cs.length)
    (hn : OW P n w0 E ops rest Q (upd ρ d (.int .i64 (l.length : Int))) L') : OW P n w0 E ops (o :: rest) Q ρ L := by
  have hm : min (bs l).size len = l.length := by rw [bs_size]; omega
  have ht' : (bs l).data.toList.take (min (bs l).size len) = l := by rw [hm, bs_toList, List.take_length]
  refine OW.copy_str (Tb := Tb) (L' := L') hw hd h hx hy ht ti ?_ (by rw [hm]; exact hf) (by rw [hm]; exact hn)
  rw [ht', hcs]
  exact hp
end
end Go.WL
