/- Slices that are made, appended to, copied, converted; no statement of the seat is proved here. -/
import Derived.Test.YtahdekllphehkaaDoorL6
import Derived.Laws.BytesArg
import Derived.Laws.BytesString
namespace Go.WL
open Go.Spec
set_option linter.unusedVariables false
set_option linter.unusedSimpArgs false
section
variable {P : Program} {n : Nat} {w0 : World} {E : List Nat} {o : Oper} {ρ : Nat → Value} {L : List Ent}

theorem Cl.perm {L' : List Ent} {w : World} (h : Cl w0 E L w) (hp : L.Perm L') : Cl w0 E L' w :=
  ⟨h.os, h.tape, h.output, h.size, h.old, fun x hx => h.own x (hp.mem_iff.2 hx), fun x hx => h.new x (hp.mem_iff.2 hx), (hp.filterMap _).nodup_iff.1 h.nodup⟩

inductive Del (x : Ent) : List Ent → List Ent → Prop where
  | head {L : List Ent} : Del x (x :: L) L
  | tail {z : Ent} {L L' : List Ent} : Del x L L' → Del x (z :: L) (z :: L')
theorem Del.perm {x : Ent} {L L' : List Ent} (h : Del x L L') : L.Perm (x :: L') := by
  induction h with
  | head => exact .refl _
  | tail _ ih => exact (ih.cons _).trans (List.Perm.swap _ _ _)

theorem Cl.push {w : World} (h : Cl w0 E L w) (d : Nat) (cs : Array Value) (T : TypeId) (y : Ent) (hf : y.fp = some w.heap.size) (hy : y.ok { w with drawn := d, heap := w.heap.push (.cells cs T) }) :
    Cl w0 E (y :: L) { w with drawn := d, heap := w.heap.push (.cells cs T) } := by
  have h' := h.alloc cs T
  refine ⟨h'.os, h'.tape, h'.output, h'.size, h'.old, ?_, ?_, ?_⟩
  · intro x hx
    rcases List.mem_cons.1 hx with rfl | hx
    · exact hy
    · exact Ent.ok_of_same (h'.own x (by simp [hx])) (fun _ _ => rfl)
  · intro x hx b hb
    rcases List.mem_cons.1 hx with rfl | hx
    · rw [hf] at hb; cases hb; exact .inl h.size
    · exact h'.new x (by simp [hx]) b hb
  · have := h'.nodup
    simp only [List.filterMap_cons, Ent.fp] at this
    simp only [List.filterMap_cons, hf]
    exact this

/-- A new entry that knows nothing. -/
theorem OW.nilrow {ops : Array Oper} {rest : List Oper} {Q : Post} (e : TypeId) (size : Nat) (h : OW P n w0 E ops rest Q ρ (.row none 0 0 e size [] :: L)) : OW P n w0 E ops rest Q ρ L := by
  intro a w hf hc
  refine h a w hf ⟨hc.os, hc.tape, hc.output, hc.size, hc.old, ?_, ?_, ?_⟩
  · intro x hx
    rcases List.mem_cons.1 hx with rfl | hx
    · exact World.ownsRow_nil w 0 e size
    · exact hc.own x hx
  · intro x hx b hb
    rcases List.mem_cons.1 hx with rfl | hx
    · cases hb
    · exact hc.new x hx b hb
  · simp only [List.filterMap_cons, Ent.fp]; exact hc.nodup
theorem CW.nilrow {c : Code} {Q : Post} (e : TypeId) (size : Nat) (h : CW P n w0 E c Q ρ (.row none 0 0 e size [] :: L)) : CW P n w0 E c Q ρ L := by
  intro a w hf hc
  refine h a w hf ⟨hc.os, hc.tape, hc.output, hc.size, hc.old, ?_, ?_, ?_⟩
  · intro x hx
    rcases List.mem_cons.1 hx with rfl | hx
    · exact World.ownsRow_nil w 0 e size
    · exact hc.own x hx
  · intro x hx b hb
    rcases List.mem_cons.1 hx with rfl | hx
    · cases hb
    · exact hc.new x hx b hb
  · simp only [List.filterMap_cons, Ent.fp]; exact hc.nodup

theorem info_of {T : TypeId} {s b : Nat} {g : Bool} {zs : List Value} (ti : tinfo P T = some (s, g, b)) (tz : tzero P T = some zs) : ∃ i z, P.info? T = some i ∧ i.size = s ∧ i.bytes = b ∧ i.zero = some z ∧ z.cells = zs.toArray := by
  obtain ⟨i, h1, h2, h3⟩ := run_typeInfo ti
  unfold tzero at tz
  rw [h1] at tz
  cases hz : i.zero with
  | none => simp [hz] at tz
  | some z => simp [hz] at tz; exact ⟨i, z, h1, h2, h3, hz, by rw [← tz]⟩

theorem OW.append {ops : Array Oper} {rest : List Oper} {Q : Post} {s x : Operand} {T e : TypeId} {a : Option Nat} {k cap m c size bytes : Nat} {sa : Addr} {g : Bool} {xs news zs : List Value} {L' : List Ent} {d : Tmp}
    (hw : Region.wanted o (yl n ops ρ) = true) (hd : o.dst = some d) (h : o.op = .call ⟨.builtin .append, #[s, x], #[T, T]⟩)
    (hs : ev n ρ s = rowV a k cap) (hx : ev n ρ x = .slice (some sa) m c) (ht : tslice P T = some e) (ti : tinfo P e = some (size, g, bytes)) (tz : tzero P e = some zs)
    (hdel : Del (.row a cap k e size xs) L L') (hnews : ∀ w, Cl w0 E L w → ∀ j u, news[j]? = some u → w.cell? (sa.add j) = some u) (hl : news.length = m * size) (h1 : ∀ u ∈ news, u.oneCell' = true)
    (hz : zs.length = size) (h0 : 0 < size) (hm : k + m ≤ maxLen) (hb : (k + m) * bytes ≤ 140737488355328)
    (hn : ∀ a' cap', OW P n w0 E ops rest Q (upd ρ d (rowV a' (k + m) cap')) (.row a' cap' (k + m) e size (xs ++ news) :: L')) : OW P n w0 E ops (o :: rest) Q ρ L := by
  refine OW.m hw fun w hc => ?_
  rw [hd]
  have hc' := hc.perm hdel.perm
  have hown : w.ownsRow 0 e size (rowV a k cap) k xs := hc'.own (.row a cap k e size xs) (by simp)
  obtain ⟨i, z, hi, hsz, hby, hzz, hzc⟩ := info_of ti tz
  have hu := und_slice ht
  subst hsz
  subst hby
  have hnews := hnews w hc
  have hcr : ∀ {v w'}, (Builtin.append_ #[T, T] o.type #[rowV a k cap, .slice (some sa) m c]).run P w = .ok v w' → (execOp (ev n ρ) o).run P w = .ok (.value v) w' := by
    intro v w' hr
    simp [execOp, h, resolve, hs, hx, invoke, builtin, hr]
  have hlen : (xs ++ news).length = (k + m) * i.size := by rw [List.length_append, hown.1, hl, Nat.add_mul]
  have hsmall : k + m ≤ 9223372036854775807 := by simp only [maxLen] at hm; omega
  have grown : ∀ (old : Nat), old < k + m → ∀ (cs : Array Value), cs = xs.toArray ++ news.toArray ++ Builtin.zeroCells z.cells (grownCap w (k + m) old e - (k + m)) → ∀ (d : Nat),
      Cl w0 E (.row (some w.heap.size) (grownCap w (k + m) old e) (k + m) e i.size (xs ++ news) :: L') { w with drawn := d, heap := w.heap.push (.cells cs e) } := by
    intro old ho cs hcs d
    subst hcs
    have hge := grownCap_ge w (k + m) old e
    have hcm : grownCap w (k + m) old e ≤ maxLen := grownCap_le_maxLen w (k + m) old e hm
    refine (hc'.sub (List.sublist_cons_self _ _)).push d _ e _ rfl ⟨hlen, .inr ⟨w.heap.size, _, xs.toArray ++ news.toArray ++ Builtin.zeroCells z.cells (grownCap w (k + m) old e - (k + m)), rfl, Nat.zero_le _, by simp, hge, hcm, ?_, ?_⟩⟩
    · simp only [Array.size_append, List.size_toArray, size_zeroCells, hzc, hz, hown.1, hl, ← Nat.add_mul]
      congr 1
      omega
    · simp only [Array.toList_append, List.append_assoc]
      rw [← List.append_assoc, ← hlen]
      exact List.take_left
  cases a with
  | none =>
    have hk : k = 0 ∧ cap = 0 := by
      rcases hown.2 with ⟨hv, h2⟩ | ⟨g, cap', cur, hv, _⟩
      · simp [rowV] at hv; exact ⟨h2, hv.2⟩
      · simp [rowV] at hv
    obtain ⟨rfl, rfl⟩ := hk
    have hx0 : xs = [] := List.eq_nil_of_length_eq_zero (by simpa using hown.1)
    subst hx0
    by_cases hm0 : m = 0
    · subst hm0
      have hn0 : news = [] := List.eq_nil_of_length_eq_zero (by simpa using hl)
      subst hn0
      refine ⟨rowV none 0 0, _, w, .inl (hcr ?_), hc', hn none 0⟩
      simp [rowV, Builtin.append_, run_underlying hu, sizeOf, typeInfo, hi, Builtin.lenOf, Builtin.firstCells, loadCells, loadCellsFrom]
    · have hr := run_append_nil (P := P) w T o.type e i z hu hi hzz sa m c news hl hnews (by omega) (by omega) (by have hb := hb; simp only [Nat.zero_add] at hb; omega)
      have hn' := hn (some w.heap.size) (grownCap w m 0 e)
      rw [Nat.zero_add] at hn'
      refine ⟨_, _, _, .inl (hcr hr), ?_, hn'⟩
      have := grown 0 (by omega) (news.toArray ++ Builtin.zeroCells z.cells (grownCap w m 0 e - m)) (by simp) (w.drawn + 1)
      simp only [Nat.zero_add, List.nil_append] at this ⊢
      exact this
  | some b =>
    obtain ⟨g, cap', cur, hv, hbg, hg, hnc, hcm, hcs, htake⟩ : ∃ g cap' cur, rowV (some b) k cap = .slice (some ⟨g, 0, none⟩) k cap' ∧ 0 ≤ g ∧ w.heap[g]? = some (.cells cur e (0, 0)) ∧ k ≤ cap' ∧ cap' ≤ maxLen ∧ cur.size = cap' * i.size ∧ cur.toList.take (k * i.size) = xs := by
      rcases hown.2 with ⟨hv, _⟩ | h
      · simp [rowV] at hv
      · exact h
    obtain ⟨rfl, rfl⟩ : b = g ∧ cap = cap' := by simpa [rowV] using hv
    by_cases hroom : k + m ≤ cap
    · have hfit : k * i.size + news.length ≤ cur.size := by rw [hl, hcs, ← Nat.add_mul]; exact Nat.mul_le_mul_right _ hroom
      have hr := run_append_room (P := P) w T o.type e i hu hi b k cap cur hg sa m c news hl hnews h1 hroom hfit
      refine ⟨_, _, _, .inl (hcr hr), ?_, hn (some b) cap⟩
      refine hc'.put .head rfl rfl rfl rfl rfl (by simp) (fun j hj => setRow_other w b j _ hj) ⟨hlen, .inr ⟨b, cap, _, rfl, Nat.zero_le _, setRow_heap w b cur _ e _ hg, hroom, hcm, ?_, ?_⟩⟩
      · simp only [List.size_toArray, List.length_append, List.length_take, List.length_drop, Array.length_toList]
        omega
      · rw [htake, ← hlen]
        exact List.take_left
    · have holds : ∀ j u, xs[j]? = some u → w.cell? ((⟨b, 0, none⟩ : Addr).add j) = some u := hown.cells (g := b) rfl
      have hr := run_append_grow (P := P) w T o.type e i z hu hi hzz ⟨b, 0, none⟩ k cap xs hown.1 holds sa m c news hl hnews (by omega) (by omega) (growslice_fits (by omega) hb)
      refine ⟨_, _, _, .inl (hcr hr), ?_, hn (some w.heap.size) (grownCap w (k + m) cap e)⟩
      exact grown cap (by omega) _ rfl (w.drawn + 1)

/-- A slice of so many zeros. -/
theorem OW.make {ops : Array Oper} {rest : List Oper} {Q : Post} {l c : Operand} {T e : TypeId} {k : Int} {size bytes : Nat} {g : Bool} {zs cs : List Value} {d : Tmp}
    (hw : Region.wanted o (yl n ops ρ) = true) (hd : o.dst = some d) (h : o.op = .makeSlice T l c) (hl : ev n ρ l = .int .i64 k) (hc : ev n ρ c = .int .i64 k) (ht : tslice P T = some e) (ti : tinfo P e = some (size, g, bytes)) (tz : tzero P e = some zs)
    (h0 : 0 ≤ k) (hb : (bytes : Int) * k ≤ 281474976710656) (h63 : k ≤ 9223372036854775807) (hcs : (madeCells zs.toArray (k.toNat * size)).toList = cs)
    (hn : ∀ b, OW P n w0 E ops rest Q (upd ρ d (.slice (some ⟨b, 0, none⟩) k.toNat k.toNat)) (.blk b cs e (0, 0) :: L)) : OW P n w0 E ops (o :: rest) Q ρ L := by
  refine OW.m hw fun w hcl => ?_
  rw [hd]
  obtain ⟨i, z, hi, hsz, hby, hzz, hzc⟩ := info_of ti tz
  subst hsz
  subst hby
  have hr := run_make (P := P) w T e i z (und_slice ht) hi hzz .i64 .i64 k k h0 (Int.le_refl _) hb h63
  rw [hzc] at hr
  refine ⟨.slice (some ⟨w.heap.size, 0, none⟩) k.toNat k.toNat, _, w.alloc (.cells (madeCells zs.toArray (k.toNat * i.size)) e), .inl (by simp [execOp, h, hl, hc, hr]), ?_, hn w.heap.size⟩
  have := hcl.alloc (madeCells zs.toArray (k.toNat * i.size)) e
  rw [hcs] at this
  exact this

theorem made_one (z : Value) (k : Nat) : (madeCells [z].toArray k).toList = List.replicate k z := toList_madeCells_one z k

/-! ### bytes to a string, a string to bytes -/
theorem push_bytes (l : Bytes) : (l.map fun x => (x.toNat : Int)).foldl (fun (r : ByteArray) (n : Int) => r.push (UInt8.ofNat n.toNat)) ByteArray.empty = bs l := by
  rw [foldl_push_bytes]
  apply ByteArray.ext
  simp [bs, ByteArray.empty, ByteArray.emptyWithCapacity]
  exact (List.map_congr_left (g := id) (fun x _ => by simp)).trans (List.map_id _)
theorem yq_conv_bytes {S T e : TypeId} {x : Operand} {a : Addr} {len cap : Nat} {l : Bytes} (h : o.op = .convert S T x) (hS : tslice P S = some e) (he : P.underlying e = some (.int .u8)) (hT : tstr P T = true) (hx : ev n ρ x = .slice (some a) len cap) (hl : l.length = len)
    (hc : ∀ w, Cl w0 E L w → ∀ j u, (bc l)[j]? = some u → w.cell? (a.add j) = some u) : Yq P n w0 E o ρ L (.string (bs l)) :=
  yq_val fun w hw => by
    have h1 := run_loadCells_list (P := P) w a (bc l) (hc w hw)
    rw [bc_length, hl] at h1
    have h2 : (bc l).toArray = ((l.map fun x => (x.toNat : Int)).map (Value.int .u8)).toArray := by simp [bc]
    rw [h2] at h1
    have h3 := run_bytesToString (P := P) w a len cap _ h1
    rw [push_bytes] at h3
    simp [execOp, h, hx, convert, run_und (und_slice hS), run_und (und_str hT), run_und he, h3]
theorem yq_conv_bytes_nil {S T e : TypeId} {x : Operand} {len cap : Nat} (h : o.op = .convert S T x) (hS : tslice P S = some e) (he : P.underlying e = some (.int .u8)) (hT : tstr P T = true) (hx : ev n ρ x = .slice none len cap) : Yq P n w0 E o ρ L (.string (bs [])) :=
  yq_val fun w hw => by
    simp [execOp, h, hx, convert, run_und (und_slice hS), run_und (und_str hT), run_und he, Conv.bytesToString]
    rfl

/-! ### copy of a string into a block of ours -/
theorem OW.copy_str {ops : Array Oper} {rest : List Oper} {Q : Post} {x y : Operand} {T e : TypeId} {ats : List TypeId} {b off len cap : Nat} {s : ByteArray} {cs : List Value} {Tb : TypeId} {L' : List Ent} {g : Bool} {by_ : Nat} {d : Tmp}
    (hw : Region.wanted o (yl n ops ρ) = true) (hd : o.dst = some d) (h : o.op = .call ⟨.builtin .copy, #[x, y], (T :: ats).toArray⟩) (hx : ev n ρ x = .slice (some ⟨b, off, none⟩) len cap) (hy : ev n ρ y = .string s)
    (ht : tslice P T = some e) (ti : tinfo P e = some (1, g, by_))
    (hp : Put (.blk b cs Tb (0, 0)) (.blk b (spl cs off (bc (s.data.toList.take (min s.size len)))) Tb (0, 0)) L L') (hf : off + min s.size len ≤ cs.length)
    (hn : OW P n w0 E ops rest Q (upd ρ d (.int .i64 (min s.size len : Nat))) L') : OW P n w0 E ops (o :: rest) Q ρ L := by
  have hsz : s.data.toList.length = s.size := rfl
  have hlen : (bc (s.data.toList.take (min s.size len))).length = min s.size len := by
    rw [bc_length, List.length_take, hsz]; omega
  refine OW.m hw fun w hc => ⟨.int .i64 (min s.size len : Nat), L', w.setRow b (spl cs off (bc (s.data.toList.take (min s.size len)))).toArray, .inl ?_, hc.setRow hp, by rw [hd]; exact hn⟩
  have hb := hc.own _ hp.mem
  have hst := run_storeCells_at P b off Tb (bc (s.data.toList.take (min s.size len))) 0 cs.toArray w hb (by simp only [hlen, List.size_toArray]; omega) (bc_one _)
  simp only [Nat.add_zero, List.toList_toArray] at hst
  have hfc : ∀ sz, (Builtin.firstCells sz (Nat.min s.size len) (.string s)).run P w = .ok (bc (s.data.toList.take (min s.size len))).toArray w := by
    intro sz
    have hcells : (s.extract 0 (min s.size len)).data.map (fun b => Value.int .u8 (b.toNat : Int)) = (bc (s.data.toList.take (min s.size len))).toArray := by
      apply Array.ext'
      rw [ByteArray.data_extract, Array.toList_map, Array.toList_extract]
      simp [bc, List.extract_eq_take_drop]
    show Result.ok _ w = _
    rw [← hcells]
  have hcp : (Builtin.copy_ (T :: ats).toArray o.type #[.slice (some ⟨b, off, none⟩) len cap, .string s]).run P w = .ok (.int .i64 (min s.size len : Nat)) (w.setRow b (spl cs off (bc (s.data.toList.take (min s.size len)))).toArray) := by
    simp [Builtin.copy_, run_und (und_slice ht), Builtin.lenOf, run_size ti, hfc, hst, goInt, spl]
  simp [execOp, h, resolve, hx, hy, invoke, builtin, hcp]
/-- A store, the block's new content told by an equation. -/
theorem OW.store' {ops : Array Oper} {rest : List Oper} {Q : Post} {a x : Operand} {v : Value} {b off : Nat} {cs vs cs' : List Value} {T Tb : TypeId} {L' : List Ent} {g : Bool} {by_ : Nat}
    (hw : Region.wanted o (yl n ops ρ) = true) (hd : o.dst = none) (h : o.op = .store T a x) (ha : ev n ρ a = .pointer (some ⟨b, off, none⟩)) (hx : ev n ρ x = v)
    (ti : tinfo P T = some (vs.length, g, by_)) (hv : v.cells = vs.toArray) (h1 : ∀ u ∈ vs, u.oneCell' = true)
    (hp : Put (.blk b cs Tb (0, 0)) (.blk b cs' Tb (0, 0)) L L') (hcs : spl cs off vs = cs') (hf : off + vs.length ≤ cs.length)
    (hn : OW P n w0 E ops rest Q ρ L') : OW P n w0 E ops (o :: rest) Q ρ L := by
  subst hcs
  exact OW.store hw hd h ha hx ti hv h1 hp hf hn
/-- One cell. -/
theorem OW.store1 {ops : Array Oper} {rest : List Oper} {Q : Post} {a x : Operand} {v : Value} {b off : Nat} {cs cs' : List Value} {T Tb : TypeId} {L' : List Ent} {g : Bool} {by_ : Nat}
    (hw : Region.wanted o (yl n ops ρ) = true) (hd : o.dst = none) (h : o.op = .store T a x) (ha : ev n ρ a = .pointer (some ⟨b, off, none⟩)) (hx : ev n ρ x = v)
    (ti : tinfo P T = some (1, g, by_)) (h1 : v.oneCell' = true)
    (hp : Put (.blk b cs Tb (0, 0)) (.blk b cs' Tb (0, 0)) L L') (hcs : spl cs off [v] = cs') (hf : off + 1 ≤ cs.length)
    (hn : OW P n w0 E ops rest Q ρ L') : OW P n w0 E ops (o :: rest) Q ρ L :=
  OW.store' (vs := [v]) hw hd h ha hx ti (cells_one h1) (by simpa using h1) hp hcs hf hn
end
end Go.WL
