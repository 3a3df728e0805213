/- Builders of text: a text behind bytes of ours, bytes told as a text; no statement of the seat is proved here. -/
import Derived.Test.YtahdekllphehkaaDoorL14
import Derived.Lib.AppendStr
import Derived.Laws.Append
import Derived.Lib.UnsafeStr
namespace Go.WL
open Go.Spec
set_option linter.unusedVariables false
set_option linter.unusedSimpArgs false
section
variable {P : Program} {n : Nat} {w0 : World} {E : List Nat} {o : Oper} {ρ : Nat → Value} {L : List Ent}

theorem yv_nilCheck {x : Operand} {a : Addr} (h : o.op = .nilCheck x) (hx : ev n ρ x = .pointer (some a)) : Yv P n w0 E o ρ L (.pointer (some a)) := by
  intro w hw
  simp [execOp, h, hx]
theorem strCells_bs (l : Bytes) : Lib.strCells (bs l) = bc l := by simp [Lib.strCells, bs, bc]
/-- 'append(b, s...)' of a text. -/
theorem OW.appendS {ops : Array Oper} {rest : List Oper} {Q : Post} {s x : Operand} {T S e : TypeId} {a : Option Nat} {k cap : Nat} {l : Bytes} {xs : List Value} {L' : List Ent} {d : Tmp}
    (hw : Region.wanted o (yl n ops ρ) = true) (hd : o.dst = some d) (h : o.op = .call ⟨.builtin .append, #[s, x], #[T, S]⟩)
    (hs : ev n ρ s = rowV a k cap) (hx : ev n ρ x = .string (bs l)) (ht : tslice P T = some e) (hS : tstr P S = true) (ti : tinfo P e = some (1, false, 1)) (tz : tzero P e = some [.int .u8 0]) (hz1 : (P.info? e).bind (fun i => i.zero) = some (.int .u8 0))
    (hdel : Del (.row a cap k e 1 xs) L L') (hb : k + l.length ≤ 140737488355328)
    (hn : ∀ a' cap', OW P n w0 E ops rest Q (upd ρ d (rowV a' (k + l.length) cap')) (.row a' cap' (k + l.length) e 1 (xs ++ bc l) :: L')) : OW P n w0 E ops (o :: rest) Q ρ L := by
  refine OW.m hw fun w hc => ?_
  rw [hd]
  have hc' := hc.perm hdel.perm
  have hown : w.ownsRow 0 e 1 (rowV a k cap) k xs := hc'.own (.row a cap k e 1 xs) (by simp)
  obtain ⟨i, z, hi, hsz, hby, hzz, hzc⟩ := info_of ti tz
  have hz0 : z = .int .u8 0 := by
    rw [hi] at hz1
    simp only [Option.bind_some] at hz1
    rw [hzz] at hz1
    exact Option.some.inj hz1
  subst hz0
  have hu := und_slice ht
  have huS := und_str hS
  have hm : k + l.length ≤ maxLen := by simp only [maxLen]; omega
  have hcr : ∀ {v w'}, (Builtin.append_ #[T, S] o.type #[rowV a k cap, .string (bs l)]).run P w = .ok v w' → (execOp (ev n ρ) o).run P w = .ok (.value v) w' := by
    intro v w' hr
    simp [execOp, h, resolve, hs, hx, invoke, builtin, hr]
  have hxl : xs.length = k := by simpa using hown.1
  have hbl : (bc l).length = l.length := bc_length l
  have hlen : (xs ++ bc l).length = (k + l.length) * 1 := by rw [List.length_append, hxl, hbl, Nat.mul_one]
  have grown : ∀ (old : Nat), old < k + l.length → ∀ (cs : Array Value), cs = xs.toArray ++ (bc l).toArray ++ Builtin.zeroCells (Value.int .u8 0).cells (grownCap w (k + l.length) old e - (k + l.length)) → ∀ (d : Nat),
      Cl w0 E (.row (some w.heap.size) (grownCap w (k + l.length) old e) (k + l.length) e 1 (xs ++ bc l) :: L') { w with drawn := d, heap := w.heap.push (.cells cs e) } := by
    intro old ho cs hcs d
    subst hcs
    have hge := grownCap_ge w (k + l.length) old e
    have hcm : grownCap w (k + l.length) old e ≤ maxLen := grownCap_le_maxLen w (k + l.length) old e hm
    refine (hc'.sub (List.sublist_cons_self _ _)).push d _ e _ rfl ⟨hlen, .inr ⟨w.heap.size, _, xs.toArray ++ (bc l).toArray ++ Builtin.zeroCells (Value.int .u8 0).cells (grownCap w (k + l.length) old e - (k + l.length)), rfl, Nat.zero_le _, by simp, hge, hcm, ?_, ?_⟩⟩
    · have hz1 : (Value.int IntKind.u8 0).cells.size = 1 := rfl
      simp only [Array.size_append, List.size_toArray, size_zeroCells, hz1, hxl, hbl]
      omega
    · simp only [Array.toList_append, List.append_assoc]
      rw [← List.append_assoc, ← hlen]
      exact List.take_left
  cases a with
  | none =>
    have hk : k = 0 ∧ cap = 0 := by
      rcases hown.2 with ⟨hv, h2⟩ | ⟨g, cap', cur, hv, _⟩
      · simp [rowV] at hv; exact ⟨h2, hv.2⟩
      · simp [rowV] at hv
    obtain ⟨rfl, rfl⟩ := hk
    have hx0 : xs = [] := List.eq_nil_of_length_eq_zero (by simpa using hown.1)
    subst hx0
    by_cases hm0 : l = []
    · subst hm0
      refine ⟨rowV none 0 0, _, w, .inl (hcr ?_), hc', hn none 0⟩
      have hf := Lib.run_firstCells_string (P := P) w 1 (bs [])
      simp [rowV, Builtin.append_, run_underlying hu, run_underlying huS, sizeOf, typeInfo, hi, Builtin.lenOf, bs, ByteArray.size] at hf ⊢
      simp_all
    · have h0 : 0 < l.length := List.length_pos_iff.2 hm0
      have hr := run_append_nil_string (P := P) w T S o.type e i (.int .u8 0) hu huS hi hzz (bs l) (by rw [bs_size]; omega) (by rw [bs_size]; omega) (by rw [hby, bs_size]; omega)
      have hn' := hn (some w.heap.size) (grownCap w l.length 0 e)
      rw [Nat.zero_add] at hn'
      refine ⟨_, _, _, .inl (hcr hr), ?_, hn'⟩
      have e1 : ((bs l).data.map fun b => Value.int .u8 b.toNat) = (bc l).toArray := by
        apply Array.ext'
        simp [bs, bc]
      have := grown 0 (by omega) ((bc l).toArray ++ Builtin.zeroCells (Value.int .u8 0).cells (grownCap w l.length 0 e - l.length)) (by simp) (w.drawn + 1)
      simp only [Nat.zero_add, List.nil_append] at this ⊢
      rw [e1]
      exact this
  | some b =>
    obtain ⟨g, cap', cur, hv, hbg, hg, hnc, hcm, hcs, htake⟩ : ∃ g cap' cur, rowV (some b) k cap = .slice (some ⟨g, 0, none⟩) k cap' ∧ 0 ≤ g ∧ w.heap[g]? = some (.cells cur e (0, 0)) ∧ k ≤ cap' ∧ cap' ≤ maxLen ∧ cur.size = cap' * 1 ∧ cur.toList.take (k * 1) = xs := by
      rcases hown.2 with ⟨hv, _⟩ | h
      · simp [rowV] at hv
      · exact h
    obtain ⟨rfl, rfl⟩ : b = g ∧ cap = cap' := by simpa [rowV] using hv
    by_cases hroom : k + l.length ≤ cap
    · have hr := Lib.run_append_room_string (P := P) w T S o.type e i hu huS hi (by assumption) b k cap cur hg (bs l) (by rw [bs_size]; exact hroom) (by rw [bs_size]; omega)
      rw [strCells_bs, bs_size] at hr
      refine ⟨_, _, _, .inl (hcr hr), ?_, hn (some b) cap⟩
      refine hc'.put .head rfl rfl rfl rfl rfl (by simp) (fun j hj => setRow_other w b j _ hj) ⟨hlen, .inr ⟨b, cap, _, rfl, Nat.zero_le _, setRow_heap w b cur _ e _ hg, hroom, hcm, ?_, ?_⟩⟩
      · simp only [List.size_toArray, List.length_append, List.length_take, List.length_drop, Array.length_toList, hbl]
        omega
      · have ht' : cur.toList.take k = xs := by simpa using htake
        rw [ht', ← hlen]
        exact List.take_left
    · have holds : ∀ j u, xs[j]? = some u → w.cell? ((⟨b, 0, none⟩ : Addr).add j) = some u := hown.cells (g := b) rfl
      have hr := Lib.run_append_grow_string (P := P) w T S o.type e i (.int .u8 0) hu huS hi hzz ⟨b, 0, none⟩ k cap xs (by simp [*]) holds (bs l) (by rw [bs_size]; omega) (by rw [bs_size]; omega) (by rw [hby, bs_size]; exact growslice_fits (by omega) (by omega))
      rw [strCells_bs, bs_size] at hr
      refine ⟨_, _, _, .inl (hcr hr), ?_, hn (some w.heap.size) (grownCap w (k + l.length) cap e)⟩
      exact grown cap (by omega) _ rfl (w.drawn + 1)

/-- 'unsafe.SliceData' of bytes of ours. -/
theorem yq_sliceData {x : Operand} {T : TypeId} {g k cap : Nat} (h : o.op = .call ⟨.builtin .unsafeSliceData, [x].toArray, [T].toArray⟩) (hx : ev n ρ x = .slice (some ⟨g, 0, none⟩) k cap) (hc : cap ≠ 0) : Yq P n w0 E o ρ L (.pointer (some ⟨g, 0, none⟩)) :=
  yq_val fun w _ => by
    have hr := Lib.run_unsafeSliceData_row (P := P) w #[T] o.type ⟨g, 0, none⟩ k cap hc
    simp [execOp, h, resolve, hx, invoke, builtin, hr]
/-- 'unsafe.String' over bytes of ours: they are ours no more. -/
theorem OW.ustring {ops : Array Oper} {rest : List Oper} {Q : Post} {x y : Operand} {T I e : TypeId} {g cap : Nat} {l : Bytes} {L' : List Ent} {d : Tmp}
    (hw : Region.wanted o (yl n ops ρ) = true) (hd : o.dst = some d) (h : o.op = .call ⟨.builtin .unsafeString, #[x, y], #[T, I]⟩)
    (hx : ev n ρ x = .pointer (some ⟨g, 0, none⟩)) (hy : ev n ρ y = .int .i64 (l.length : Int)) (hp : P.underlying T = some (.pointer e)) (hce : P.cellsOf e = 1)
    (hdel : Del (.row (some g) cap l.length e 1 (bc l)) L L') (h0 : l ≠ []) (hn : OW P n w0 E ops rest Q (upd ρ d (.string (bs l))) L') : OW P n w0 E ops (o :: rest) Q ρ L := by
  refine OW.m hw fun w hc => ?_
  rw [hd]
  have hc' := hc.perm hdel.perm
  have hown : w.ownsRow 0 e 1 (rowV (some g) l.length cap) l.length (bc l) := hc'.own (.row (some g) cap l.length e 1 (bc l)) (by simp)
  obtain ⟨g', cap', cur, hv, _, hg, hnc, hcm, hcs, htake⟩ : ∃ g' cap' cur, rowV (some g) l.length cap = .slice (some ⟨g', 0, none⟩) l.length cap' ∧ 0 ≤ g' ∧ w.heap[g']? = some (.cells cur e (0, 0)) ∧ l.length ≤ cap' ∧ cap' ≤ maxLen ∧ cur.size = cap' * 1 ∧ cur.toList.take (l.length * 1) = bc l := by
    rcases hown.2 with ⟨hv, _⟩ | h
    · simp [rowV] at hv
    · exact h
  obtain ⟨rfl, rfl⟩ : g = g' ∧ cap = cap' := by simpa [rowV] using hv
  have hr := Lib.run_unsafeString_row (P := P) w T I o.type e hp hce g cur.size (by simp [World.shape?, hg]) l h0 (by omega) (by unfold maxLen at hcm; omega) (fun j x hx => by
    have := hown.cells (g := g) rfl j (U8 x) (by simp [bc, hx])
    exact this)
  refine ⟨_, L', w.freeze ⟨g, 0, none⟩ l.length, .inl (by simp [execOp, h, resolve, hx, hy, invoke, builtin, hr]; rfl), ?_, hn⟩
  have hkeep : ∀ k, k ≠ g → (w.freeze ⟨g, 0, none⟩ l.length).heap[k]? = w.heap[k]? := fun k hk => by
    unfold World.freeze
    split
    · rfl
    · simp only [Array.getElem?_modify]
      rw [if_neg (Ne.symm hk)]
  have hsame : (w.freeze ⟨g, 0, none⟩ l.length).os = w.os ∧ (w.freeze ⟨g, 0, none⟩ l.length).tape = w.tape ∧ (w.freeze ⟨g, 0, none⟩ l.length).output = w.output ∧ (w.freeze ⟨g, 0, none⟩ l.length).heap.size = w.heap.size := by
    unfold World.freeze
    split <;> simp
  have hfar : ∀ x ∈ L', ∀ b, x.fp = some b → b ≠ g := by
    intro z hz b hb hbg
    have hnd := hc'.nodup
    simp only [List.filterMap_cons, Ent.fp, List.nodup_cons] at hnd
    exact hnd.1 (List.mem_filterMap.2 ⟨z, hz, by rw [hb, hbg]⟩)
  have hc2 := hc'.sub (List.sublist_cons_self _ L')
  refine ⟨hsame.1.trans hc2.os, hsame.2.1.trans hc2.tape, hsame.2.2.1.trans hc2.output, by rw [hsame.2.2.2]; exact hc2.size, fun k hk hkE => ?_, fun x hx => Ent.ok_of_same (hc2.own x hx) (fun b hb => hkeep b (hfar x hx b hb)), hc2.new, hc2.nodup⟩
  have hkg : k ≠ g := by
    intro he
    rcases hc'.new _ (List.mem_cons_self ..) g rfl with h1 | h1
    · omega
    · exact hkE (he ▸ h1)
  exact (hkeep k hkg).trans (hc2.old k hk hkE)
end
end Go.WL
namespace Go.WL
open Go.Spec
section
variable {P : Program} {n : Nat} {w0 : World} {E : List Nat} {ρ : Nat → Value} {L : List Ent}
theorem OW.perm {ops : Array Oper} {rest : List Oper} {Q : Post} {L' : List Ent} (hp : L.Perm L') (h : OW P n w0 E ops rest Q ρ L') : OW P n w0 E ops rest Q ρ L := fun a w hf hc => h a w hf (hc.perm hp)
theorem CW.perm {c : Code} {Q : Post} {L' : List Ent} (hp : L.Perm L') (h : CW P n w0 E c Q ρ L') : CW P n w0 E c Q ρ L := fun a w hf hc => h a w hf (hc.perm hp)
/-- A block that is a slice's row, whole. -/
theorem OW.toRow {ops : Array Oper} {rest : List Oper} {Q : Post} {L' : List Ent} {b k size : Nat} {e : TypeId} {cs : List Value} (hp : Put (.blk b cs e (0, 0)) (.row (some b) k k e size cs) L L') (hl : cs.length = k * size) (hk : k ≤ maxLen) (h : OW P n w0 E ops rest Q ρ L') : OW P n w0 E ops rest Q ρ L := by
  intro a w hf hc
  refine h a w hf ?_
  have hb : w.heap[b]? = some (.cells cs.toArray e (0, 0)) := hc.own _ hp.mem
  refine hc.put (b := b) hp rfl rfl rfl rfl rfl rfl (fun _ _ => rfl) ?_
  exact ⟨hl, .inr ⟨b, k, cs.toArray, rfl, Nat.zero_le _, hb, Nat.le_refl _, hk, by simpa using hl, by rw [List.toList_toArray, ← hl, List.take_length]⟩⟩
/-- Two entries of ours, lent. -/
theorem Cl.lent2 {w : World} {x y : Ent} {Lk : List Ent} (h : Cl w0 E (x :: y :: Lk) w) : Cl w (x.fp.toList ++ y.fp.toList) [x, y] w := by
  refine Cl.lent (fun z hz => ?_) (fun z hz b hb => ?_) ?_
  · rcases List.mem_cons.1 hz with rfl | hz
    · exact h.own _ (by simp)
    · rw [List.mem_singleton] at hz; subst hz; exact h.own _ (by simp)
  · rcases List.mem_cons.1 hz with rfl | hz
    · rw [hb]; simp
    · rw [List.mem_singleton] at hz; subst hz; rw [hb]; simp
  · exact (h.sub (L' := [x, y]) ((List.nil_sublist Lk).cons_cons y |>.cons_cons x)).nodup
end
end Go.WL
