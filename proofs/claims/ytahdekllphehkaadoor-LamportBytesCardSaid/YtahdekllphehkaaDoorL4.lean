/- What each operation on memory does, one lemma an operation; no statement of the seat is proved here. -/
import Derived.Test.YtahdekllphehkaaDoorL3
import Derived.Laws.Tables
import Derived.Laws.MakeOwn
import Derived.Laws.CopyRow
import Derived.Laws.Strings
namespace Go.WL
set_option linter.unusedVariables false
set_option linter.unusedSimpArgs false

/-- What is known of a type: how many cells, whether it is a struct or an array, its zero's cells, its bytes. -/
def tinfo (P : Program) (T : TypeId) : Option (Nat × Bool × Nat) :=
  match P.info? T, P.underlying T with
  | some i, some d => some (i.size, (match d with | .struct _ | .array _ _ => true | _ => false), i.bytes)
  | _, _ => none
def tzero (P : Program) (T : TypeId) : Option (List Value) := (P.info? T).bind fun i => i.zero.map fun z => z.cells.toList
def tslice (P : Program) (T : TypeId) : Option TypeId := match P.underlying T with | some (.slice e) => some e | _ => none
def tarr (P : Program) (T : TypeId) : Option (Nat × TypeId) := match P.underlying T with | some (.array k e) => some (k, e) | _ => none
def tfield (P : Program) (S : TypeId) (f : Nat) : Option (Nat × TypeId) :=
  match P.underlying S with
  | some (.struct fs) => (fs[f]?).map fun fd => (fd.offset, fd.type)
  | _ => none
def tstr (P : Program) (T : TypeId) : Bool := match P.underlying T with | some .string => true | _ => false

section
variable {P : Program} {n : Nat} {w0 : World} {E : List Nat} {o : Oper} {ρ : Nat → Value} {L : List Ent}

theorem run_size {T : TypeId} {s b : Nat} {g : Bool} (h : tinfo P T = some (s, g, b)) (w : World) : (sizeOf T).run P w = .ok s w := by
  unfold tinfo at h
  cases hi : P.info? T with
  | none => simp [hi] at h
  | some i =>
    cases hu : P.underlying T with
    | none => simp [hi, hu] at h
    | some d => simp [hi, hu] at h; simp [sizeOf, typeInfo, program, Sem.run, hi, h.1]
theorem run_isAgg {T : TypeId} {s b : Nat} {g : Bool} (h : tinfo P T = some (s, g, b)) (w : World) : (isAgg T).run P w = .ok g w := by
  unfold tinfo at h
  cases hi : P.info? T with
  | none => simp [hi] at h
  | some i =>
    cases hu : P.underlying T with
    | none => simp [hi, hu] at h
    | some d =>
      simp [hi, hu] at h
      unfold isAgg
      rw [Sem.run_bind, run_und hu]
      cases d <;> simp_all
theorem run_typeInfo {T : TypeId} {s b : Nat} {g : Bool} (h : tinfo P T = some (s, g, b)) : ∃ i, P.info? T = some i ∧ i.size = s ∧ i.bytes = b := by
  unfold tinfo at h
  cases hi : P.info? T with
  | none => simp [hi] at h
  | some i =>
    cases hu : P.underlying T with
    | none => simp [hi, hu] at h
    | some d => simp [hi, hu] at h; exact ⟨i, rfl, h.1, h.2.2⟩
theorem run_zero {T : TypeId} {zs : List Value} (h : tzero P T = some zs) (w : World) : ∃ z : Value, (zeroValue T).run P w = .ok z w ∧ z.cells = zs.toArray := by
  unfold tzero at h
  cases hi : P.info? T with
  | none => simp [hi] at h
  | some i =>
    cases hz : i.zero with
    | none => simp [hi, hz] at h
    | some z =>
      simp [hi, hz] at h
      exact ⟨z, by simp [zeroValue, typeInfo, program, Sem.run, hi, hz], by rw [← h]⟩
theorem und_slice {T e : TypeId} (h : tslice P T = some e) : P.underlying T = some (.slice e) := by
  unfold tslice at h
  cases hu : P.underlying T with
  | none => simp [hu] at h
  | some d => cases d <;> simp_all
theorem und_arr {T e : TypeId} {k : Nat} (h : tarr P T = some (k, e)) : P.underlying T = some (.array k e) := by
  unfold tarr at h
  cases hu : P.underlying T with
  | none => simp [hu] at h
  | some d => cases d <;> simp_all
theorem und_str {T : TypeId} (h : tstr P T = true) : P.underlying T = some .string := by
  unfold tstr at h
  cases hu : P.underlying T with
  | none => simp [hu] at h
  | some d => cases d <;> simp_all
theorem und_struct {S T : TypeId} {f k : Nat} (h : tfield P S f = some (k, T)) : ∃ fs fd, P.underlying S = some (.struct fs) ∧ fs[f]? = some fd ∧ fd.offset = k ∧ fd.type = T := by
  unfold tfield at h
  cases hu : P.underlying S with
  | none => simp [hu] at h
  | some d =>
    cases d <;> simp [hu] at h
    case struct fs =>
      obtain ⟨fd, h1, h2, h3⟩ := h
      exact ⟨fs, fd, rfl, h1, h2, h3⟩

/-! ### new blocks -/
theorem OW.new {ops : Array Oper} {rest : List Oper} {Q : Post} {d : Tmp} {cs : List Value} {T : TypeId} (hw : Region.wanted o (yl n ops ρ) = true) (hd : o.dst = some d)
    (hr : ∀ w, (execOp (ev n ρ) o).run P w = .ok (.value (.pointer (some ⟨w.heap.size, 0, none⟩))) { w with heap := w.heap.push (.cells cs.toArray T) })
    (h : ∀ b, OW P n w0 E ops rest Q (upd ρ d (.pointer (some ⟨b, 0, none⟩))) (.blk b cs T (0, 0) :: L)) : OW P n w0 E ops (o :: rest) Q ρ L := by
  refine OW.m hw fun w hc => ⟨_, _, _, .inl (hr w), by simpa using hc.alloc cs.toArray T, ?_⟩
  rw [hd]
  exact h _

theorem OW.alloc {ops : Array Oper} {rest : List Oper} {Q : Post} {d : Tmp} {zs : List Value} {T : TypeId} (hw : Region.wanted o (yl n ops ρ) = true) (hd : o.dst = some d) (h : o.op = .alloc T) (hz : tzero P T = some zs)
    (hn : ∀ b, OW P n w0 E ops rest Q (upd ρ d (.pointer (some ⟨b, 0, none⟩))) (.blk b zs T (0, 0) :: L)) : OW P n w0 E ops (o :: rest) Q ρ L := by
  refine OW.new hw hd (fun w => ?_) hn
  obtain ⟨z, hz1, hz2⟩ := run_zero hz w
  simp [execOp, h, Instr.alloc, hz1, newVar, newRow, newObj, Sem.run, hz2]
theorem OW.box {ops : Array Oper} {rest : List Oper} {Q : Post} {d : Tmp} {x : Operand} {v : Value} {cs : List Value} {T : TypeId} (hw : Region.wanted o (yl n ops ρ) = true) (hd : o.dst = some d) (h : o.op = .box T x) (hx : ev n ρ x = v) (hv : v.cells = cs.toArray)
    (hn : ∀ b, OW P n w0 E ops rest Q (upd ρ d (.pointer (some ⟨b, 0, none⟩))) (.blk b cs T (0, 0) :: L)) : OW P n w0 E ops (o :: rest) Q ρ L := by
  refine OW.new hw hd (fun w => ?_) hn
  simp [execOp, h, Instr.box, newVar, newRow, newObj, Sem.run, hx, hv]

/-- The value of cells: one, or an aggregate. -/
theorem cells_agg (cs : List Value) : (Value.agg cs.toArray).cells = cs.toArray := rfl
theorem cells_one {v : Value} (h : v.oneCell' = true) : v.cells = [v].toArray := by cases v <;> simp_all [Value.cells, Value.oneCell']

/-! ### stores -/
def spl (cs : List Value) (off : Nat) (vs : List Value) : List Value := cs.take off ++ vs ++ cs.drop (off + vs.length)
theorem spl_length {cs vs : List Value} {off : Nat} (h : off + vs.length ≤ cs.length) : (spl cs off vs).length = cs.length := by simp [spl]; omega

theorem Cl.setRow {w : World} {L' : List Ent} {b : Nat} {cs cs' : List Value} {T : TypeId} (hc : Cl w0 E L w) (hp : Put (.blk b cs T (0, 0)) (.blk b cs' T (0, 0)) L L') : Cl w0 E L' (w.setRow b cs'.toArray) := by
  have hb := hc.own _ hp.mem
  refine hc.put hp rfl rfl rfl rfl rfl (by simp) (fun k hk => setRow_other w b k _ hk) ?_
  exact setRow_heap w b _ _ T _ hb

theorem OW.store {ops : Array Oper} {rest : List Oper} {Q : Post} {a x : Operand} {v : Value} {b off : Nat} {cs vs : List Value} {T Tb : TypeId} {L' : List Ent} {g : Bool} {by_ : Nat}
    (hw : Region.wanted o (yl n ops ρ) = true) (hd : o.dst = none) (h : o.op = .store T a x) (ha : ev n ρ a = .pointer (some ⟨b, off, none⟩)) (hx : ev n ρ x = v)
    (ti : tinfo P T = some (vs.length, g, by_)) (hv : v.cells = vs.toArray) (h1 : ∀ u ∈ vs, u.oneCell' = true)
    (hp : Put (.blk b cs Tb (0, 0)) (.blk b (spl cs off vs) Tb (0, 0)) L L') (hf : off + vs.length ≤ cs.length)
    (hn : OW P n w0 E ops rest Q ρ L') : OW P n w0 E ops (o :: rest) Q ρ L := by
  refine OW.m hw fun w hc => ⟨undef, L', w.setRow b (spl cs off vs).toArray, .inr ⟨?_, rfl⟩, hc.setRow hp, by rw [hd]; exact hn⟩
  have hb := hc.own _ hp.mem
  have hst := run_storeCells_at P b off Tb vs 0 cs.toArray w hb (by simpa using hf) h1
  have e : (execOp (ev n ρ) o).run P w = ((storeVar T ⟨b, off, none⟩ v).run P w).andThen fun _ w' => .ok .skip w' := by
    simp [execOp, h, ha, hx, Instr.storeAt, Instr.sureAddr]
  rw [e]
  simp only [storeVar, Sem.run_bind, run_size ti, Result.andThen_ok, hv, List.size_toArray, ne_eq, not_true, if_false]
  simp only [Nat.add_zero, List.toList_toArray] at hst
  simp only [Sem.run_pure, Result.andThen_ok, hst]
  rfl

/-! ### loads -/
theorem add_mk (b off k : Nat) : (⟨b, off, none⟩ : Addr).add k = ⟨b, off + k, none⟩ := by unfold Addr.add; split <;> simp_all

theorem run_load_one {T : TypeId} {a : Addr} {v : Value} {s b : Nat} (ti : tinfo P T = some (s, false, b)) {w : World} (hc : w.cell? a = some v) : (loadVar T a).run P w = .ok v w := by
  simp [loadVar, run_isAgg ti, load, Sem.run, hc]
theorem run_load_agg {T : TypeId} {b off : Nat} {vs : List Value} {y : Nat} (ti : tinfo P T = some (vs.length, true, y)) {w : World} (hc : ∀ j u, vs[j]? = some u → w.cell? ⟨b, off + j, none⟩ = some u) :
    (loadVar T ⟨b, off, none⟩).run P w = .ok (.agg vs.toArray) w := by
  have hl := run_loadCells_list (P := P) w ⟨b, off, none⟩ vs (fun j u hu => by rw [add_mk]; exact hc j u hu)
  simp [loadVar, run_isAgg ti, run_size ti, hl]

theorem yq_load_c {T : TypeId} {a : Operand} {ad : Addr} {v : Value} (h : o.op = .load T a) (ha : ev n ρ a = .pointer (some ad)) (hl : ∀ w, Cl w0 E L w → (loadVar T ad).run P w = .ok v w) : Yq P n w0 E o ρ L v :=
  yq_val fun w hc => by simp [execOp, h, ha, Instr.loadAt, Instr.sureAddr, hl w hc]

theorem Cl.cellAt {w : World} {b off : Nat} {cs : List Value} {T : TypeId} {fz : Nat × Nat} (hc : Cl w0 E L w) (hm : Ent.blk b cs T fz ∈ L) : w.cell? ⟨b, off, none⟩ = cs[off]? := by
  rw [cell_of_row w b off cs.toArray T fz (hc.heap hm)]; simp

/-- One cell of a block of ours. -/
theorem yq_load1 {T Tb : TypeId} {fz : Nat × Nat} {a : Operand} {b off : Nat} {cs : List Value} {v : Value} {s y : Nat} (h : o.op = .load T a) (ha : ev n ρ a = .pointer (some ⟨b, off, none⟩)) (ti : tinfo P T = some (s, false, y))
    (hm : Ent.blk b cs Tb fz ∈ L) (hv : cs[off]? = some v) : Yq P n w0 E o ρ L v :=
  yq_load_c h ha fun w hc => run_load_one ti (by rw [hc.cellAt hm]; exact hv)
/-- Some cells of a block of ours. -/
theorem yq_loadA {T Tb : TypeId} {fz : Nat × Nat} {a : Operand} {b off : Nat} {cs vs : List Value} {y : Nat} (h : o.op = .load T a) (ha : ev n ρ a = .pointer (some ⟨b, off, none⟩)) (ti : tinfo P T = some (vs.length, true, y))
    (hm : Ent.blk b cs Tb fz ∈ L) (hv : ∀ j u, vs[j]? = some u → cs[off + j]? = some u) : Yq P n w0 E o ρ L (.agg vs.toArray) :=
  yq_load_c h ha fun w hc => run_load_agg ti fun j u hu => by rw [hc.cellAt hm]; exact hv j u hu
/-- A whole block of ours. -/
theorem yq_loadW {T Tb : TypeId} {fz : Nat × Nat} {a : Operand} {b : Nat} {cs : List Value} {y : Nat} (h : o.op = .load T a) (ha : ev n ρ a = .pointer (some ⟨b, 0, none⟩)) (ti : tinfo P T = some (cs.length, true, y))
    (hm : Ent.blk b cs Tb fz ∈ L) : Yq P n w0 E o ρ L (.agg cs.toArray) :=
  yq_loadA h ha ti hm fun j u hu => by simpa using hu

/-! ### addresses -/
theorem yq_fieldAddr {S T : TypeId} {x : Operand} {f k b off s y : Nat} {g : Bool} (h : o.op = .fieldAddr S x f) (hx : ev n ρ x = .pointer (some ⟨b, off, none⟩)) (hf : tfield P S f = some (k, T)) (ti : tinfo P T = some (s + 1, g, y)) :
    Yq P n w0 E o ρ L (.pointer (some ⟨b, off + k, none⟩)) :=
  yq_val fun w _ => by
    obtain ⟨fs, fd, h1, h2, rfl, rfl⟩ := und_struct hf
    simp [execOp, h, hx, Instr.fieldAt, run_und h1, h2, Instr.sureAddr, fieldPlace, run_size ti, add_mk]
theorem yq_index_arr {T e : TypeId} {x i : Operand} {k : IntKind} {b off len s y : Nat} {g : Bool} {j : Int} (h : o.op = .indexAddr T x i) (hx : ev n ρ x = .pointer (some ⟨b, off, none⟩)) (hi : ev n ρ i = .int k j) (ht : tarr P T = some (len, e)) (ti : tinfo P e = some (s, g, y))
    (h0 : 0 ≤ j) (h1 : j < len) : Yq P n w0 E o ρ L (.pointer (some ⟨b, off + j.toNat * s, none⟩)) :=
  yq_val fun w _ => by
    simp [execOp, h, hx, hi, Instr.indexAt, asIntOf, run_und (und_arr ht), Instr.sureAddr, run_size ti, add_mk, h0, h1]
theorem yq_index_slice {T e : TypeId} {x i : Operand} {k : IntKind} {b off len cap s y : Nat} {g : Bool} {j : Int} (h : o.op = .indexAddr T x i) (hx : ev n ρ x = .slice (some ⟨b, off, none⟩) len cap) (hi : ev n ρ i = .int k j) (ht : tslice P T = some e) (ti : tinfo P e = some (s, g, y))
    (h0 : 0 ≤ j) (h1 : j < len) : Yq P n w0 E o ρ L (.pointer (some ⟨b, off + j.toNat * s, none⟩)) :=
  yq_val fun w _ => by
    simp [execOp, h, hx, hi, Instr.indexAt, asIntOf, run_und (und_slice ht), run_size ti, add_mk, h0, h1]

/-! ### parts of values -/
theorem yq_field1 {S T : TypeId} {x : Operand} {f k s y : Nat} {cs : List Value} {v : Value} (h : o.op = .field S x f) (hx : ev n ρ x = .agg cs.toArray) (hf : tfield P S f = some (k, T)) (ti : tinfo P T = some (s, false, y)) (hv : cs[k]? = some v) : Yq P n w0 E o ρ L v :=
  yq_val fun w _ => by
    obtain ⟨fs, fd, h1, h2, rfl, rfl⟩ := und_struct hf
    simp [execOp, h, hx, Instr.field, run_und h1, h2, part, run_isAgg ti, asAgg, hv]
theorem yq_fieldA {S T : TypeId} {x : Operand} {f k s y : Nat} {cs : List Value} (h : o.op = .field S x f) (hx : ev n ρ x = .agg cs.toArray) (hf : tfield P S f = some (k, T)) (ti : tinfo P T = some (s, true, y)) : Yq P n w0 E o ρ L (.agg ((cs.drop k).take s).toArray) :=
  yq_val fun w _ => by
    obtain ⟨fs, fd, h1, h2, rfl, rfl⟩ := und_struct hf
    simp [execOp, h, hx, Instr.field, run_und h1, h2, part, run_isAgg ti, run_size ti, asAgg, List.extract_eq_take_drop]
theorem yq_indexV1 {T e : TypeId} {x i : Operand} {k : IntKind} {len s y : Nat} {cs : List Value} {j : Int} {v : Value} (h : o.op = .index T x i) (hx : ev n ρ x = .agg cs.toArray) (hi : ev n ρ i = .int k j) (ht : tarr P T = some (len, e)) (ti : tinfo P e = some (1, false, y))
    (h0 : 0 ≤ j) (h1 : j < len) (hv : cs[j.toNat]? = some v) : Yq P n w0 E o ρ L v :=
  yq_val fun w _ => by
    simp [execOp, h, hx, hi, Instr.index, asIntOf, run_und (und_arr ht), part, run_isAgg ti, run_size ti, h0, h1, hv]
theorem yq_indexVA {T e : TypeId} {x i : Operand} {k : IntKind} {len s y : Nat} {cs : List Value} {j : Int} (h : o.op = .index T x i) (hx : ev n ρ x = .agg cs.toArray) (hi : ev n ρ i = .int k j) (ht : tarr P T = some (len, e)) (ti : tinfo P e = some (s, true, y))
    (h0 : 0 ≤ j) (h1 : j < len) : Yq P n w0 E o ρ L (.agg ((cs.drop (j.toNat * s)).take s).toArray) :=
  yq_val fun w _ => by
    simp [execOp, h, hx, hi, Instr.index, asIntOf, run_und (und_arr ht), part, run_isAgg ti, run_size ti, h0, h1, List.extract_eq_take_drop]
theorem yq_build {T : TypeId} {parts : List (Nat × Operand)} {pv : List (Nat × Value)} {cs : List Value} (h : o.op = .build T parts.toArray) (hp : parts.map (fun p => (p.1, ev n ρ p.2)) = pv) (hb : P.built T pv = some cs.toArray) : Yq P n w0 E o ρ L (.agg cs.toArray) :=
  yq_val fun w _ => by
    have e : (parts.toArray.map fun (i, x) => (i, ev n ρ x)) = pv.toArray := by rw [List.map_toArray, ← hp]
    have hr := run_build (P := P) w T pv.toArray cs.toArray (by simpa using hb)
    simp only [execOp, h, e]
    simp [hr]

/-! ### strings and lengths -/
theorem yq_len_str {T : TypeId} {ats : List TypeId} {x : Operand} {s : ByteArray} (h : o.op = .call ⟨.builtin .len, [x].toArray, (T :: ats).toArray⟩) (ht : tstr P T = true) (hx : ev n ρ x = .string s) : Yq P n w0 E o ρ L (.int .i64 (s.size : Int)) :=
  yq_val fun w _ => by simp [execOp, h, resolve, hx, invoke, builtin, Builtin.len_, run_und (und_str ht), goInt]
theorem yq_len_slice {T e : TypeId} {ats : List TypeId} {x : Operand} {a : Option Addr} {len cap : Nat} (h : o.op = .call ⟨.builtin .len, [x].toArray, (T :: ats).toArray⟩) (ht : tslice P T = some e) (hx : ev n ρ x = .slice a len cap) : Yq P n w0 E o ρ L (.int .i64 (len : Int)) :=
  yq_val fun w _ => by simp [execOp, h, resolve, hx, invoke, builtin, Builtin.len_, run_und (und_slice ht), goInt]
theorem yq_len_arr {T e : TypeId} {k : Nat} {ats : List TypeId} {x : Operand} (h : o.op = .call ⟨.builtin .len, [x].toArray, (T :: ats).toArray⟩) (ht : tarr P T = some (k, e)) : Yq P n w0 E o ρ L (.int .i64 (k : Int)) :=
  yq_val fun w _ => by simp [execOp, h, resolve, invoke, builtin, Builtin.len_, run_und (und_arr ht), goInt]
theorem yq_cap_slice {T e : TypeId} {ats : List TypeId} {x : Operand} {a : Option Addr} {len cap : Nat} (h : o.op = .call ⟨.builtin .cap, [x].toArray, (T :: ats).toArray⟩) (ht : tslice P T = some e) (hx : ev n ρ x = .slice a len cap) : Yq P n w0 E o ρ L (.int .i64 (cap : Int)) :=
  yq_val fun w _ => by simp [execOp, h, resolve, hx, invoke, builtin, Builtin.cap_, run_und (und_slice ht), goInt]
theorem yq_min {ats : Array TypeId} {x y : Operand} {k : IntKind} {a b r : Int} (h : o.op = .call ⟨.builtin .min, [x, y].toArray, ats⟩) (hx : ev n ρ x = .int k a) (hy : ev n ρ y = .int k b) (hr : (if b < a then b else a) = r) : Yq P n w0 E o ρ L (.int k r) :=
  yq_val fun w _ => by simp [execOp, h, resolve, hx, hy, invoke, builtin, Builtin.min_, Builtin.min2, hr]

theorem yq_add_str {t t' : TypeId} {x y : Operand} {a b : ByteArray} (h : o.op = .binOp .add t x y t') (hx : ev n ρ x = .string a) (hy : ev n ρ y = .string b) (hr : a.size + b.size ≤ 9223372036854775807) : Yq P n w0 E o ρ L (.string (a ++ b)) :=
  yq_val fun w _ => by simp [execOp, h, hx, hy, eqGuard_str, binOp, run_string_add_sum w a b hr]
theorem bytes_toList (a : ByteArray) : a.toList = a.data.toList := by
  exact ByteArray.toList_eq a
theorem str_beq (a b : ByteArray) : (a.toList == b.toList) = decide (a = b) := by
  by_cases e : a = b
  · subst e; simp
  · have : ¬ a.toList = b.toList := fun h => e (by
      rw [bytes_toList, bytes_toList] at h
      exact ByteArray.ext (Array.toList_inj.1 h))
    simp [e, this]
theorem yq_eql_str {t t' : TypeId} {x y : Operand} {a b : ByteArray} (h : o.op = .binOp .eql t x y t') (hx : ev n ρ x = .string a) (hy : ev n ρ y = .string b) : Yq P n w0 E o ρ L (.bool (decide (a = b))) :=
  yq_val fun w _ => by
    have e := str_beq a b
    simp [execOp, h, hx, hy, eqGuard_str, binOp, Op.stringOp, e]
theorem yq_neq_str {t t' : TypeId} {x y : Operand} {a b : ByteArray} (h : o.op = .binOp .neq t x y t') (hx : ev n ρ x = .string a) (hy : ev n ρ y = .string b) : Yq P n w0 E o ρ L (.bool (decide (a ≠ b))) :=
  yq_val fun w _ => by
    have e := str_beq a b
    simp [execOp, h, hx, hy, eqGuard_str, binOp, Op.stringOp, e]
theorem yq_index_str {T : TypeId} {x i : Operand} {k : IntKind} {s : ByteArray} {j : Int} {c : UInt8} (h : o.op = .index T x i) (hx : ev n ρ x = .string s) (hi : ev n ρ i = .int k j) (ht : tstr P T = true) (h0 : 0 ≤ j) (hv : s[j.toNat]? = some c) : Yq P n w0 E o ρ L (U8 c) :=
  yq_val fun w _ => by
    simp [execOp, h, hx, hi, Instr.index, asIntOf, run_und (und_str ht), h0, hv]

/-- A bound of a slice expression, or none. -/
def bnd (n : Nat) (ρ : Nat → Value) : Option Operand → Nat → Nat → Prop
  | none, d, r => r = d
  | some x, _, r => ∃ k j, ev n ρ x = .int k j ∧ 0 ≤ j ∧ j.toNat = r
theorem run_bound {x : Operand} {y r : Nat} {code : BoundsCode} {w : World} (h : ∃ k j, ev n ρ x = .int k j ∧ 0 ≤ j ∧ j.toNat = r) (hr : r ≤ y) : (Instr.sliceBound (ev n ρ x) y code).run P w = .ok r w := by
  obtain ⟨k, j, hx, h0, rfl⟩ := h
  have : 0 ≤ j ∧ j ≤ (y : Int) := ⟨h0, by omega⟩
  simp [Instr.sliceBound, hx, asIntOf, this]
theorem run_bounds {isS : Bool} {len cap : Nat} {lo hi : Option Operand} {l h : Nat} {w : World} (hl : bnd n ρ lo 0 l) (hh : bnd n ρ hi len h) (h1 : l ≤ h) (h2 : h ≤ cap) :
    (Instr.sliceBounds isS len cap (lo.map (ev n ρ)) (hi.map (ev n ρ)) none).run P w = .ok (l, h, cap) w := by
  unfold Instr.sliceBounds
  cases lo <;> cases hi <;> simp only [bnd] at hl hh
  · subst hl; subst hh; simp
  · subst hl; simp [run_bound hh h2]
  · subst hh; simp [run_bound hl h1]
  · simp [run_bound hh h2, run_bound hl h1]

theorem yq_slice_str {T : TypeId} {x : Operand} {lo hi : Option Operand} {s : ByteArray} {l h : Nat} (ho : o.op = .slice T x lo hi none) (hx : ev n ρ x = .string s) (ht : tstr P T = true) (hl : bnd n ρ lo 0 l) (hh : bnd n ρ hi s.size h) (h1 : l ≤ h) (h2 : h ≤ s.size) :
    Yq P n w0 E o ρ L (.string (s.extract l h)) :=
  yq_val fun w _ => by
    have := run_bounds (P := P) (isS := false) (len := s.size) (cap := s.size) (w := w) hl hh h1 h2
    simp [execOp, ho, hx, Instr.sliceAt, Instr.slice, run_und (und_str ht), this]
theorem yq_slice_slice {T e : TypeId} {x : Operand} {lo hi : Option Operand} {b off len cap l h s y : Nat} {g : Bool} (ho : o.op = .slice T x lo hi none) (hx : ev n ρ x = .slice (some ⟨b, off, none⟩) len cap) (ht : tslice P T = some e) (ti : tinfo P e = some (s, g, y)) (hl : bnd n ρ lo 0 l) (hh : bnd n ρ hi len h) (h1 : l ≤ h) (h2 : h ≤ cap) :
    Yq P n w0 E o ρ L (.slice (some ⟨b, if cap = l then off else off + l * s, none⟩) (h - l) (cap - l)) :=
  yq_val fun w _ => by
    have := run_bounds (P := P) (isS := true) (len := len) (cap := cap) (w := w) hl hh h1 h2
    by_cases e : cap = l
    · subst e; simp [execOp, ho, hx, Instr.sliceAt, Instr.slice, run_und (und_slice ht), this, run_size ti, add_mk]
    · simp [execOp, ho, hx, Instr.sliceAt, Instr.slice, run_und (und_slice ht), this, run_size ti, add_mk, e]
theorem yq_slice_arr {T e : TypeId} {x : Operand} {lo hi : Option Operand} {b off k l h s y : Nat} {g : Bool} (ho : o.op = .slice T x lo hi none) (hx : ev n ρ x = .pointer (some ⟨b, off, none⟩)) (ht : tarr P T = some (k, e)) (ti : tinfo P e = some (s, g, y)) (hl : bnd n ρ lo 0 l) (hh : bnd n ρ hi k h) (h1 : l ≤ h) (h2 : h ≤ k) :
    Yq P n w0 E o ρ L (.slice (some ⟨b, if k = l then off else off + l * s, none⟩) (h - l) (k - l)) :=
  yq_val fun w _ => by
    have := run_bounds (P := P) (isS := false) (len := k) (cap := k) (w := w) hl hh h1 h2
    by_cases e : k = l
    · subst e; simp [execOp, ho, hx, Instr.sliceAt, run_und (und_arr ht), this, Instr.sureAddr, run_size ti, add_mk]
    · simp [execOp, ho, hx, Instr.sliceAt, run_und (und_arr ht), this, Instr.sureAddr, run_size ti, add_mk, e]
end
end Go.WL
