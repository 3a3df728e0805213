/- Slices cloned, and the cells of what is behind a slice; no statement of the seat is proved here. -/
import Derived.Test.YtahdekllphehkaaDoorML
import Derived.Laws.StructEq
namespace Go.WL
open Go.Spec
set_option linter.unusedVariables false
set_option linter.unusedSimpArgs false
section
variable {P : Program} {n : Nat} {w0 : World} {E : List Nat} {o : Oper} {ρ : Nat → Value} {L : List Ent}

/-- 's[:0:0]'. -/
theorem yq_slice_none {T e : TypeId} {x h0 m0 : Operand} {a : Option Addr} {len cap s y : Nat} {g : Bool} {k k' : IntKind} (ho : o.op = .slice T x none (some h0) (some m0)) (hx : ev n ρ x = .slice a len cap) (ht : tslice P T = some e) (ti : tinfo P e = some (s, g, y)) (hh : ev n ρ h0 = .int k 0) (hm : ev n ρ m0 = .int k' 0) :
    Yq P n w0 E o ρ L (.slice a 0 0) :=
  yq_val fun w _ => by
    simp [execOp, ho, hx, Instr.sliceAt, Instr.slice, run_und (und_slice ht), Instr.sliceBounds, Instr.sliceBound, hh, hm, asIntOf, run_size ti]

/-- An append onto what has no room, of some. -/
theorem OW.fresh {ops : Array Oper} {rest : List Oper} {Q : Post} {s x : Operand} {T e : TypeId} {a : Option Addr} {m c size bytes : Nat} {sa : Addr} {g : Bool} {news zs : List Value} {d : Tmp}
    (hw : Region.wanted o (yl n ops ρ) = true) (hd : o.dst = some d) (h : o.op = .call ⟨.builtin .append, #[s, x], #[T, T]⟩)
    (hs : ev n ρ s = .slice a 0 0) (hx : ev n ρ x = .slice (some sa) m c) (ht : tslice P T = some e) (ti : tinfo P e = some (size, g, bytes)) (tz : tzero P e = some zs)
    (hnews : ∀ w, Cl w0 E L w → ∀ j u, news[j]? = some u → w.cell? (sa.add j) = some u) (hl : news.length = m * size)
    (hz : zs.length = size) (h0 : 0 < size) (hm0 : 0 < m) (hm : m ≤ maxLen) (hb : m * bytes ≤ 140737488355328)
    (hn : ∀ b' cap', OW P n w0 E ops rest Q (upd ρ d (rowV (some b') m cap')) (.row (some b') cap' m e size news :: L)) : OW P n w0 E ops (o :: rest) Q ρ L := by
  refine OW.m hw fun w hc => ?_
  rw [hd]
  obtain ⟨i, z, hi, hsz, hby, hzz, hzc⟩ := info_of ti tz
  have hu := und_slice ht
  subst hsz
  subst hby
  have hnews := hnews w hc
  have hcr : ∀ {v w'}, (Builtin.append_ #[T, T] o.type #[.slice a 0 0, .slice (some sa) m c]).run P w = .ok v w' → (execOp (ev n ρ) o).run P w = .ok (.value v) w' := by
    intro v w' hr
    simp [execOp, h, resolve, hs, hx, invoke, builtin, hr]
  have hsmall : m ≤ 9223372036854775807 := by simp only [maxLen] at hm; omega
  have hge := grownCap_ge w m 0 e
  have hcm : grownCap w m 0 e ≤ maxLen := grownCap_le_maxLen w m 0 e hm
  have hcl : ∀ (cs : Array Value), cs = news.toArray ++ Builtin.zeroCells z.cells (grownCap w m 0 e - m) → ∀ (dr : Nat),
      Cl w0 E (.row (some w.heap.size) (grownCap w m 0 e) m e i.size news :: L) { w with drawn := dr, heap := w.heap.push (.cells cs e) } := by
    intro cs hcs dr
    subst hcs
    refine hc.push dr _ e _ rfl ⟨hl, .inr ⟨w.heap.size, _, news.toArray ++ Builtin.zeroCells z.cells (grownCap w m 0 e - m), rfl, Nat.zero_le _, by simp, hge, hcm, ?_, ?_⟩⟩
    · simp only [Array.size_append, List.size_toArray, size_zeroCells, hzc, hz, hl, ← Nat.add_mul]
      congr 1
      omega
    · simp only [Array.toList_append, List.toList_toArray]
      rw [← hl]
      exact List.take_left
  cases a with
  | none =>
    have hr := run_append_nil (P := P) w T o.type e i z hu hi hzz sa m c news hl hnews (by omega) (by omega) (by omega)
    exact ⟨_, _, _, .inl (hcr hr), hcl _ rfl _, hn _ _⟩
  | some b =>
    have hr := run_append_grow (P := P) w T o.type e i z hu hi hzz b 0 0 [] (by simp) (by intro j u hu; simp at hu) sa m c news hl hnews (by omega) (by omega) (by rw [Nat.zero_add]; exact growslice_fits (by omega) hb)
    simp only [Nat.zero_add, List.nil_append] at hr
    exact ⟨_, _, _, .inl (hcr hr), hcl _ (by simp) _, hn _ _⟩
end
end Go.WL
namespace Go.WL
open Go.Spec
set_option linter.unusedVariables false
set_option linter.unusedSimpArgs false
section
variable {P : Program} {n : Nat} {w0 : World} {E : List Nat} {o : Oper} {ρ : Nat → Value} {L : List Ent}
/-- A struct of a number and of a hash. -/
def headC (m : Int) (h : Hash) : List Value := .int .i64 m :: hc h
theorem headC_length (m : Int) (h : Hash) : (headC m h).length = 33 := by unfold headC; rw [List.length_cons, hc_length]
structure HeadTy (P : Program) (S T0 T1 e : TypeId) : Prop where
  fields : (P.fieldsOf S).toList.map (fun f => (f.name == "_", f.type, f.offset)) = [(false, T0, 0), (false, T1, 1)]
  und : P.underlying S = some (.struct (P.fieldsOf S))
  held : P.stoodInHeld S = false
  guard : P.eqGuardType P.depth S = false
  u0 : P.underlying T0 = some (.int .i64)
  i0 : ∃ s y, tinfo P T0 = some (s, false, y)
  u1 : P.underlying T1 = some (.array 32 e)
  i1 : ∃ y, tinfo P T1 = some (32, true, y)
  ue : P.underlying e = some (.int .u8)
  ie : ∃ y, tinfo P e = some (1, false, y)
theorem run_eq_head {S T0 T1 e : TypeId} (h : HeadTy P S T0 T1 e) (a b : Int) (x z : Hash) (w : World) :
    (Op.equalIn 10000 S (.agg (headC a x).toArray) (.agg (headC b z).toArray)).run P w = .ok (decide (a = b ∧ x = z)) w := by
  obtain ⟨hf, hu, hp, hg, u0, ⟨s0, y0, i0⟩, u1, ⟨y1, i1⟩, ue, ⟨ye, ie⟩⟩ := h
  rw [run_equalIn_struct (P := P) w 9999 S _ _ hu hp]
  generalize (P.fieldsOf S).toList = fs at hf
  obtain ⟨f0, f1, rfl⟩ : ∃ f0 f1, fs = [f0, f1] := by
    cases fs with
    | nil => simp at hf
    | cons f0 t =>
      cases t with
      | nil => simp at hf
      | cons f1 t =>
        cases t with
        | nil => exact ⟨f0, f1, rfl⟩
        | cons f2 t => simp at hf
  simp only [List.map_cons, List.map_nil, List.cons.injEq, Prod.mk.injEq, and_true] at hf
  obtain ⟨⟨n0, rfl, o0⟩, n1, rfl, o1⟩ := hf
  have m0 : f0.name ≠ "_" := by intro he; rw [he] at n0; simp at n0
  have m1 : f1.name ≠ "_" := by intro he; rw [he] at n1; simp at n1
  have p0 : ∀ (c : Int) (v : Hash) (w : World), (part f0.type (headC c v).toArray f0.offset).run P w = .ok (.int .i64 c) w := by
    intro c v w
    rw [o0]
    simp [part, run_isAgg i0, headC]
  have p1 : ∀ (c : Int) (v : Hash) (w : World), (part f1.type (headC c v).toArray f1.offset).run P w = .ok (.agg (hc v).toArray) w := by
    intro c v w
    rw [o1]
    have : List.take 32 (headC c v).tail = hc v := by
      unfold headC
      rw [List.tail_cons, List.take_of_length_le (by rw [hc_length]; decide)]
    simp [part, run_isAgg i1, run_size i1, this]
  have hq : ∀ (x z : UInt8) (w : World), (Op.equalIn 9998 e (U8 x) (U8 z)).run P w = .ok (decide (x = z)) w := by
    intro x z w
    rw [run_equalIn_int w 9997 e .u8 .u8 _ _ ue]
    congr 1
    by_cases h : x = z
    · simp [h]
    · have : ¬ ((x.toNat : Int) = (z.toNat : Int)) := fun h' => h (UInt8.toNat_inj.1 (Int.ofNat_inj.1 h'))
      simp only [h, decide_false]
      exact beq_eq_false_iff_ne.2 this
  have e1 := run_eq_arr0 (P := P) (d := 9998) (y := ye) u1 hq ie x.toList z.toList (by simp) (by simp) w
  have e0 := run_equalIn_int (P := P) w 9998 f0.type .i64 .i64 a b u0
  have e1' : (Op.equalIn 9999 f1.type (.agg (hc x).toArray) (.agg (hc z).toArray)).run P w = .ok (decide (x.toList = z.toList)) w := e1
  have e0' : (Op.equalIn 9999 f0.type (.int .i64 a) (.int .i64 b)).run P w = .ok (a == b) w := e0
  simp only [Op.eqFields, ne_eq, m0, m1, not_false_eq_true, if_true, Sem.run_bind, p0, p1, Result.andThen_ok, e0', e1', Sem.run_pure, Sem.run_ite]
  by_cases hab : a = b
  · subst hab
    by_cases hxz : x = z
    · subst hxz; simp
    · simp [hxz, toList_inj]
  · have : (a == b) = false := beq_eq_false_iff_ne.2 hab
    simp [this, hab]
variable {t t' T0 T1 e : TypeId}
theorem yq_eql_head {x z : Operand} {a b : Int} {g k : Hash} (h : o.op = .binOp .eql t x z t') (hx : ev n ρ x = .agg (headC a g).toArray) (hz : ev n ρ z = .agg (headC b k).toArray) (ht : HeadTy P t T0 T1 e) :
    Yq P n w0 E o ρ L (.bool (decide (a = b ∧ g = k))) :=
  yq_val fun w _ => by
    simp only [execOp, h, hx, hz, Sem.run_bind, run_eqGuard_agg w _ _ _ _ _ _ ht.guard, Result.andThen_ok, run_eql_struct, run_eq_head ht]
    simp
theorem yq_neq_head {x z : Operand} {a b : Int} {g k : Hash} (h : o.op = .binOp .neq t x z t') (hx : ev n ρ x = .agg (headC a g).toArray) (hz : ev n ρ z = .agg (headC b k).toArray) (ht : HeadTy P t T0 T1 e) :
    Yq P n w0 E o ρ L (.bool (decide (¬ (a = b ∧ g = k)))) :=
  yq_val fun w _ => by
    simp only [execOp, h, hx, hz, Sem.run_bind, run_eqGuard_agg w _ _ _ _ _ _ ht.guard, Result.andThen_ok, run_neq_struct, run_eq_head ht]
    simp
/-- An empty slice of its own. -/
theorem OW.sliceempty {ops : Array Oper} {rest : List Oper} {Q : Post} {T e : TypeId} {s y : Nat} {g : Bool} {d : Tmp}
    (hw : Region.wanted o (yl n ops ρ) = true) (hd : o.dst = some d) (h : o.op = .buildSlice T 0 #[]) (ht : tslice P T = some e) (ti : tinfo P e = some (s, g, y))
    (hn : ∀ b, OW P n w0 E ops rest Q (upd ρ d (.slice (some ⟨b, 0, none⟩) 0 0)) (.blk b [] e (0, 0) :: L)) : OW P n w0 E ops (o :: rest) Q ρ L := by
  refine OW.m hw fun w hc => ?_
  rw [hd]
  have hr : (execOp (ev n ρ) o).run P w = .ok (.value (.slice (some ⟨w.heap.size, 0, none⟩) 0 0)) { w with heap := w.heap.push (.cells #[] e) } := by
    simp [execOp, h, Instr.buildSlice, run_und (und_slice ht), run_size ti, Instr.fill, newRow, newObj, Sem.run]
    rw [show Array.range 0 = #[] from Array.ext' (by simp), Array.map_empty]
  exact ⟨_, _, _, .inl hr, by simpa using hc.alloc #[] e, hn w.heap.size⟩
end
end Go.WL
