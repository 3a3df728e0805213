/- Slices built of parts, bytes of a string, and slices that may lie in such bytes; no statement of the seat is proved here. -/
import Derived.Test.YtahdekllphehkaaDoorL8
import Derived.Laws.IdiomStrings
import Derived.ArgAppend
import Derived.Great.FillDense
namespace Go.WL
open Go.Spec
set_option linter.unusedVariables false
set_option linter.unusedSimpArgs false
section
variable {P : Program} {n : Nat} {w0 : World} {E : List Nat} {o : Oper} {ρ : Nat → Value} {L : List Ent}

theorem OW.slicelit {ops : Array Oper} {rest : List Oper} {Q : Post} {T e : TypeId} {len s y : Nat} {g : Bool} {zs : List Value} {parts : List (Nat × Operand)} {vs cs : List Value} {d : Tmp}
    (hw : Region.wanted o (yl n ops ρ) = true) (hd : o.dst = some d) (h : o.op = .buildSlice T len parts.toArray) (hp : parts.map (fun p => (p.1, ev n ρ p.2)) = (vs.zipIdx 0).map fun x => (x.2, x.1))
    (ht : tslice P T = some e) (ti : tinfo P e = some (s, g, y)) (tz : tzero P e = some zs) (h0 : 0 < s) (hl : vs.length = len) (hl0 : 0 < len) (h1 : ∀ v ∈ vs, v.cells.size = s) (hb : len * s ≤ 16777216)
    (hcs : vs.flatMap (fun v => v.cells.toList) = cs)
    (hn : ∀ b, OW P n w0 E ops rest Q (upd ρ d (.slice (some ⟨b, 0, none⟩) len len)) (.blk b cs e (0, 0) :: L)) : OW P n w0 E ops (o :: rest) Q ρ L := by
  refine OW.m hw fun w hc => ?_
  rw [hd]
  obtain ⟨z, hz1, hz2⟩ := run_zero tz w
  subst hcs
  have e1 : (parts.toArray.map fun (i, x) => (i, ev n ρ x)) = ((vs.zipIdx 0).map fun x => (x.2, x.1)).toArray := by rw [List.map_toArray, ← hp]
  have hfill := Great.fill_whole h0 vs ((Array.range (len * s)).map (zs.toArray[· % zs.toArray.size]!)) h1 (by simp [hl])
  have hpos : ¬ (len * s = 0) := Nat.ne_of_gt (Nat.mul_pos hl0 h0)
  have hr : (execOp (ev n ρ) o).run P w = .ok (.value (.slice (some ⟨w.heap.size, 0, none⟩) len len)) { w with heap := w.heap.push (.cells (vs.flatMap fun v => v.cells.toList).toArray e) } := by
    have hb' : ¬ (len * s > 2 ^ 24) := by
      have : (2 : Nat) ^ 24 = 16777216 := by decide
      omega
    simp only [execOp, h, e1, Instr.buildSlice]
    simp only [Sem.run_bind, run_und (und_slice ht), Result.andThen_ok, run_size ti, if_neg hb', if_neg hpos, Sem.run_pure, hz1, hz2, List.toList_toArray]
    simp only [hfill]
    simp [newRow, newObj, Sem.run]
  exact ⟨_, _, _, .inl hr, by simpa using hc.alloc (vs.flatMap fun v => v.cells.toList).toArray e, hn w.heap.size⟩

/-! ### a slice of ours: a row, or the bytes of a string -/
inductive Sl (e : TypeId) (size : Nat) : Value → Nat → List Value → Ent → Prop where
  | row {a : Option Nat} {k cap : Nat} {xs : List Value} : Sl e size (rowV a k cap) k xs (.row a cap k e size xs)
  | fz {b k cap : Nat} {cs xs : List Value} (hl : cs.length = cap * size) (hk : k ≤ cap) (hm : cap ≤ maxLen) (hx : cs.take (k * size) = xs) :
      Sl e size (.slice (some ⟨b, 0, none⟩) k cap) k xs (.blk b cs e (cap * size, cap * size + 1))

theorem setCells_far {g : Nat} : ∀ (vs : List Value) (o : Nat) {w : World} (k : Nat), k ≠ g → (w.setCells g o vs).heap[k]? = w.heap[k]?
  | [], _, _, _, _ => rfl
  | v :: r, o, w, k, hk => by
    rw [World.setCells, setCells_far r (o + 1) k hk]
    simp [World.setCell, Array.getElem?_modify, Ne.symm hk]
theorem setCells_same (g : Nat) : ∀ (vs : List Value) (o : Nat) (w : World), (w.setCells g o vs).os = w.os ∧ (w.setCells g o vs).tape = w.tape ∧ (w.setCells g o vs).output = w.output ∧ (w.setCells g o vs).heap.size = w.heap.size
  | [], _, _ => ⟨rfl, rfl, rfl, rfl⟩
  | v :: r, o, w => by
    obtain ⟨h1, h2, h3, h4⟩ := setCells_same g r (o + 1) (w.setCell ⟨g, o, none⟩ v)
    rw [World.setCells]
    exact ⟨h1, h2, h3, by rw [h4]; simp [World.setCell]⟩
theorem setCells_row {g : Nat} {e : TypeId} {fz : Nat × Nat} : ∀ (vs : List Value) (o : Nat) (w : World) (cs : List Value), w.heap[g]? = some (.cells cs.toArray e fz) → o + vs.length ≤ cs.length →
    (w.setCells g o vs).heap[g]? = some (.cells (spl cs o vs).toArray e fz)
  | [], o, w, cs, h, _ => by simpa [World.setCells, spl] using h
  | v :: r, o, w, cs, h, hl => by
    simp only [List.length_cons] at hl
    have h2 : (w.setCell ⟨g, o, none⟩ v).heap[g]? = some (.cells (cs.set o v).toArray e fz) := by
      simp [World.setCell, Array.getElem?_modify, h]
    rw [World.setCells, setCells_row r (o + 1) _ (cs.set o v) h2 (by simp; omega)]
    congr 3
    unfold spl
    rw [List.drop_set_of_lt (by omega), List.take_set, List.take_succ_eq_append_getElem (by omega), List.set_append_right _ _ (by rw [List.length_take]; omega)]
    simp [Nat.min_eq_left (show o ≤ cs.length by omega), show o + 1 + r.length = o + (r.length + 1) by omega]

theorem Del.mem {x : Ent} {L L' : List Ent} (h : Del x L L') : x ∈ L := by induction h <;> simp_all

theorem then_ret {N : (Nat → Value) → List Ent → Prop} {Q : Post} {ρ : Nat → Value} {L : List Ent} (h : Q .ret ρ L) : thenQ N Q .ret ρ L := h
theorem blockQ_ret {id : Nat} {Q : Post} {ρ : Nat → Value} {L : List Ent} (h : Q .ret ρ L) : blockQ id Q .ret ρ L := h
/-- What is no more needed. -/
theorem OW.drop {ops : Array Oper} {rest : List Oper} {Q : Post} {L' : List Ent} (hs : L'.Sublist L) (h : OW P n w0 E ops rest Q ρ L') : OW P n w0 E ops rest Q ρ L := fun a w hf hc => h a w hf (hc.sub hs)
theorem CW.drop {c : Code} {Q : Post} {L' : List Ent} (hs : L'.Sublist L) (h : CW P n w0 E c Q ρ L') : CW P n w0 E c Q ρ L := fun a w hf hc => h a w hf (hc.sub hs)
theorem blk_cells {b : Nat} {cs : List Value} {T : TypeId} {fz : Nat × Nat} (hm : Ent.blk b cs T fz ∈ L) : ∀ w, Cl w0 E L w → ∀ j u, cs[j]? = some u → w.cell? ((⟨b, 0, none⟩ : Addr).add j) = some u := by
  intro w hw j u hu
  rw [add_mk, Nat.zero_add, hw.cellAt hm]
  exact hu
/-- What every world of the class shows may be leant on. -/
theorem CW.know {c : Code} {Q : Post} (p : Prop) (hp : ∀ w, Cl w0 E L w → p) (h : p → CW P n w0 E c Q ρ L) : CW P n w0 E c Q ρ L :=
  fun a w hf hc => h (hp w hc) a w hf hc
theorem OW.know {ops : Array Oper} {rest : List Oper} {Q : Post} (p : Prop) (hp : ∀ w, Cl w0 E L w → p) (h : p → OW P n w0 E ops rest Q ρ L) : OW P n w0 E ops rest Q ρ L :=
  fun a w hf hc => h (hp w hc) a w hf hc

theorem Sl.isSlice {e : TypeId} {size k : Nat} {v : Value} {xs : List Value} {x : Ent} (h : Sl e size v k xs x) (hk : 0 < k) {w : World} (hw : x.ok w) : ∃ b cap, v = .slice (some ⟨b, 0, none⟩) k cap := by
  cases h with
  | @row a k cap xs =>
    cases a with
    | some b => exact ⟨b, cap, rfl⟩
    | none =>
      rcases hw.2 with ⟨_, h⟩ | ⟨g, cap', cur, hv, _⟩
      · omega
      · simp [rowV] at hv
  | @fz b k cap cs xs hl hkc hm hx => exact ⟨b, cap, rfl⟩
theorem Sl.at {e : TypeId} {size k b cap : Nat} {xs : List Value} {x : Ent} (h : Sl e size (.slice (some ⟨b, 0, none⟩) k cap) k xs x) {w : World} (hw : x.ok w) : ∀ j u, xs[j]? = some u → w.cell? ⟨b, j, none⟩ = some u := by
  intro j u hu
  generalize hv : Value.slice (Option.some ⟨b, 0, none⟩) k cap = v at h
  cases h with
  | @row a k cap xs =>
    cases a with
    | some b' =>
      simp only [rowV, Option.map_some, Value.slice.injEq, Option.some.injEq, Addr.mk.injEq] at hv
      obtain ⟨⟨rfl, _⟩, _⟩ := hv
      have := World.ownsRow.cells hw (g := b) rfl j u hu
      rwa [add_mk, Nat.zero_add] at this
    | none => simp [rowV] at hv
  | @fz b' k cap cs xs hl hkc hm hx =>
    simp only [Value.slice.injEq, Option.some.injEq, Addr.mk.injEq] at hv
    obtain ⟨⟨rfl, _⟩, _⟩ := hv
    have hlt : j < k * size := by
      subst hx
      rcases Nat.lt_or_ge j (k * size) with h | h
      · exact h
      · rw [List.getElem?_eq_none (by simp; omega)] at hu; cases hu
    subst hx
    rw [List.getElem?_take_of_lt hlt] at hu
    simp [World.cell?, show w.heap[b]? = Option.some (.cells cs.toArray e _) from hw, hu]
theorem Sl.len {e : TypeId} {size k : Nat} {v : Value} {xs : List Value} {x : Ent} (h : Sl e size v k xs x) : ∃ a cap, v = .slice a k cap := by
  cases h with
  | @row a k cap xs => exact ⟨_, _, rfl⟩
  | @fz b k cap cs xs hl hkc hm hx => exact ⟨_, _, rfl⟩

theorem Cl.pushO {w : World} (h : Cl w0 E L w) (d : Nat) (ob : Obj) (y : Ent) (hf : y.fp = some w.heap.size) (hy : y.ok { w with drawn := d, heap := w.heap.push ob }) :
    Cl w0 E (y :: L) { w with drawn := d, heap := w.heap.push ob } := by
  have hsame : ∀ k, k < w.heap.size → (w.heap.push ob)[k]? = w.heap[k]? := fun k hk => by rw [Array.getElem?_push, if_neg (by omega)]
  refine ⟨h.os, h.tape, h.output, by simp; have := h.size; omega, fun k hk hE => (hsame k (Nat.lt_of_lt_of_le hk h.size)).trans (h.old k hk hE), ?_, ?_, ?_⟩
  · intro x hx
    rcases List.mem_cons.1 hx with rfl | hx
    · exact hy
    · exact Ent.ok_of_same (h.own x hx) (fun b hb => hsame b (Ent.ok_lt (h.own x hx) hb))
  · intro x hx b hb
    rcases List.mem_cons.1 hx with rfl | hx
    · rw [hf] at hb; cases hb; exact .inl h.size
    · exact h.new x hx b hb
  · simp only [List.filterMap_cons, hf, List.nodup_cons]
    refine ⟨fun hm => ?_, h.nodup⟩
    obtain ⟨z, hz, hzb⟩ := List.mem_filterMap.1 hm
    exact absurd (Ent.ok_lt (h.own z hz) hzb) (Nat.lt_irrefl _)

/-- '[]byte(s)'. -/
theorem OW.bytes_of {ops : Array Oper} {rest : List Oper} {Q : Post} {S T e : TypeId} {x : Operand} {l : Bytes} {d : Tmp}
    (hw : Region.wanted o (yl n ops ρ) = true) (hd : o.dst = some d) (h : o.op = .convert S T x) (hS : tstr P S = true) (hT : tslice P T = some e) (he : P.underlying e = some (.int .u8)) (hx : ev n ρ x = .string (bs l)) (hm : l.length ≤ maxLen)
    (hn : ∀ v x, Sl e 1 v l.length (bc l) x → OW P n w0 E ops rest Q (upd ρ d v) (x :: L)) : OW P n w0 E ops (o :: rest) Q ρ L := by
  refine OW.m hw fun w hc => ?_
  rw [hd]
  have hr := run_bytes_of_string (P := P) w S T e (bs l) (und_str hS) (und_slice hT) he
  obtain ⟨cap, hcap⟩ : ∃ cap, cap = grownCap w (bs l).size 0 e := ⟨_, rfl⟩
  have hge := grownCap_ge w (bs l).size 0 e
  have hle := grownCap_le_maxLen w (bs l).size 0 e hm
  rw [← hcap] at hr hge hle
  have hrow : bytesRow (bs l) cap = (bc l ++ List.replicate (cap - l.length) (Value.int .u8 0)).toArray := by
    unfold bytesRow
    apply Array.ext'
    simp [bc, bs, ByteArray.size]
  have hsz : (bytesRow (bs l) cap).size = cap * 1 := by rw [hrow]; simp [bc_length]; rw [bs_size] at hge; omega
  rw [hsz] at hr
  rw [bs_size] at hge
  have hr' : (execOp (ev n ρ) o).run P w = .ok (.value (.slice (some ⟨w.heap.size, 0, none⟩) l.length cap)) { w with drawn := w.drawn + 1, heap := w.heap.push (.cells (bc l ++ List.replicate (cap - l.length) (Value.int .u8 0)).toArray e (cap * 1, cap * 1 + 1)) } := by
    rw [hrow] at hr
    simp only [execOp, h, hx, Sem.run_bind, hr, Result.andThen_ok, bs_size]
    rfl
  exact ⟨_, _, _, .inl hr', hc.pushO _ _ (.blk w.heap.size (bc l ++ List.replicate (cap - l.length) (Value.int .u8 0)) e (cap * 1, cap * 1 + 1)) rfl (by simp [Ent.ok]),
    hn _ _ (.fz (b := w.heap.size) (by simp; omega) hge hle (by rw [Nat.mul_one, List.take_left' (bc_length l)]))⟩

/-- An append onto a slice of ours. -/
theorem OW.append' {ops : Array Oper} {rest : List Oper} {Q : Post} {s x : Operand} {T e : TypeId} {v : Value} {k m c size bytes : Nat} {sa : Addr} {g : Bool} {xs news zs : List Value} {y : Ent} {L' : List Ent} {d : Tmp}
    (hw : Region.wanted o (yl n ops ρ) = true) (hd : o.dst = some d) (h : o.op = .call ⟨.builtin .append, #[s, x], #[T, T]⟩)
    (hs : ev n ρ s = v) (hsl : Sl e size v k xs y) (hx : ev n ρ x = .slice (some sa) m c) (ht : tslice P T = some e) (ti : tinfo P e = some (size, g, bytes)) (tz : tzero P e = some zs)
    (hdel : Del y L L') (hnews : ∀ w, Cl w0 E L w → ∀ j u, news[j]? = some u → w.cell? (sa.add j) = some u) (hl : news.length = m * size) (h1 : ∀ u ∈ news, u.oneCell' = true)
    (hz : zs.length = size) (h0 : 0 < size) (hm : k + m ≤ maxLen) (hb : (k + m) * bytes ≤ 140737488355328)
    (hn : ∀ v' y', Sl e size v' (k + m) (xs ++ news) y' → OW P n w0 E ops rest Q (upd ρ d v') (y' :: L')) : OW P n w0 E ops (o :: rest) Q ρ L := by
  cases hsl with
  | @row a k cap xs => exact OW.append hw hd h hs hx ht ti tz hdel hnews hl h1 hz h0 hm hb fun a' cap' => hn _ _ .row
  | @fz b k cap cs xs hlc hkc hmc hxs =>
    refine OW.m hw fun w hc => ?_
    rw [hd]
    have hc' := hc.perm hdel.perm
    have hg : w.heap[b]? = some (.cells cs.toArray e (cap * size, cap * size + 1)) := hc'.own (.blk b cs e (cap * size, cap * size + 1)) (by simp)
    obtain ⟨i, z, hi, hsz, hby, hzz, hzc⟩ := info_of ti tz
    have hu := und_slice ht
    subst hsz
    subst hby
    have hnews := hnews w hc
    have hcr : ∀ {v w'}, (Builtin.append_ #[T, T] o.type #[.slice (some ⟨b, 0, none⟩) k cap, .slice (some sa) m c]).run P w = .ok v w' → (execOp (ev n ρ) o).run P w = .ok (.value v) w' := by
      intro v w' hr
      simp [execOp, h, resolve, hs, hx, invoke, builtin, hr]
    have hxl : xs.length = k * i.size := by
      subst hxs
      rw [List.length_take, hlc]
      exact Nat.min_eq_left (Nat.mul_le_mul_right _ hkc)
    have hlen : (xs ++ news).length = (k + m) * i.size := by rw [List.length_append, hxl, hl, Nat.add_mul]
    have hold : ∀ j u, xs[j]? = some u → w.cell? ((⟨b, 0, none⟩ : Addr).add j) = some u := by
      intro j u hu
      rw [add_mk, Nat.zero_add]
      exact Sl.at (.fz hlc hkc hmc hxs) (x := .blk b cs e (cap * i.size, cap * i.size + 1)) hg j u hu
    by_cases hroom : k + m ≤ cap
    · have hfit : k * i.size + news.length ≤ cs.length := by rw [hl, hlc, ← Nat.add_mul]; exact Nat.mul_le_mul_right _ hroom
      have hr := run_append_room_cells (P := P) w T o.type e i hu hi b 0 k cap sa m c news hl hnews h1 hroom
        (fun j hj => by
          have : k * i.size + j < cs.length := by omega
          simp [World.cell?, hg, this])
        (fun j hj => by
          have : k * i.size + j < cap * i.size := by omega
          simp [World.frozen?, hg]; omega)
      simp only [Nat.zero_add] at hr
      obtain ⟨e1, e2, e3, e4⟩ := setCells_same b news (k * i.size) w
      refine ⟨_, _, _, .inl (hcr hr), ?_, hn _ (.blk b (spl cs (k * i.size) news) e (cap * i.size, cap * i.size + 1)) (.fz (by rw [spl_length hfit, hlc]) hroom hmc ?_)⟩
      · exact hc'.put .head rfl rfl e1 e2 e3 e4 (fun j hj => setCells_far _ _ j hj) (setCells_row news _ w cs hg hfit)
      · have : (cs.take (k * i.size) ++ news).length = (k + m) * i.size := by rw [hxs]; exact hlen
        unfold spl
        rw [List.take_left' this, hxs]
    · have hsmall : k + m ≤ 9223372036854775807 := by simp only [maxLen] at hm; omega
      have hr := run_append_grow (P := P) w T o.type e i z hu hi hzz ⟨b, 0, none⟩ k cap xs hxl hold sa m c news hl hnews (by omega) (by omega) (growslice_fits (by omega) hb)
      have hge := grownCap_ge w (k + m) cap e
      have hcm : grownCap w (k + m) cap e ≤ maxLen := grownCap_le_maxLen w (k + m) cap e hm
      refine ⟨_, _, _, .inl (hcr hr), (hc'.sub (List.sublist_cons_self _ _)).pushO (w.drawn + 1) _ (.row (some w.heap.size) (grownCap w (k + m) cap e) (k + m) e i.size (xs ++ news)) rfl ⟨hlen, .inr ⟨w.heap.size, _, xs.toArray ++ news.toArray ++ Builtin.zeroCells z.cells (grownCap w (k + m) cap e - (k + m)), rfl, Nat.zero_le _, by simp, hge, hcm, ?_, ?_⟩⟩, hn _ _ (Sl.row (a := some w.heap.size))⟩
      · simp only [Array.size_append, List.size_toArray, size_zeroCells, hzc, hz, hxl, hl, ← Nat.add_mul]
        congr 1
        omega
      · simp only [Array.toList_append, List.append_assoc]
        rw [← List.append_assoc, ← hlen]
        exact List.take_left
end
end Go.WL
