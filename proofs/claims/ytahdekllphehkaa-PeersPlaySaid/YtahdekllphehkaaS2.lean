/- Peers in the store; no statement of the seat is proved here. -/
import Derived.Test.YtahdekllphehkaaDoorL19
import Derived.Test.YtahdekllphehkaaS1
set_option linter.unusedVariables false
set_option linter.unusedSimpArgs false
namespace Go.Proofs.Ytahdekllphehkaa
open Go.WL Go.Spec

theorem prC_length (x : Pr) : (prC x).length = 4 := rfl
theorem prl_length (l : List Pr) : (l.flatMap prC).length = l.length * 4 := by
  induction l with
  | nil => rfl
  | cons x l ih => rw [List.flatMap_cons, List.length_append, ih, prC_length, List.length_cons]; omega
theorem prl_one (l : List Pr) : ∀ u ∈ l.flatMap prC, u.oneCell' = true := by
  intro u hu
  obtain ⟨x, _, hu⟩ := List.mem_flatMap.1 hu
  simp only [prC, List.mem_cons, List.not_mem_nil, or_false] at hu
  rcases hu with rfl | rfl | rfl | rfl <;> rfl
theorem prC_one (x : Pr) : ∀ u ∈ prC x, u.oneCell' = true := by
  intro u hu
  simp only [prC, List.mem_cons, List.not_mem_nil, or_false] at hu
  rcases hu with rfl | rfl | rfl | rfl <;> rfl
theorem pr_at : ∀ {l : List Pr} {k j : Nat}, k < l.length → j < 4 → (l.flatMap prC)[k * 4 + j]? = (prC (l.getD k Pr.zero))[j]?
  | [], k, j, h, _ => by simp at h
  | x :: l, 0, j, h, hj => by
    rw [List.flatMap_cons, List.getElem?_append_left (by rw [prC_length]; omega)]
    simp
  | x :: l, k + 1, j, h, hj => by
    rw [List.flatMap_cons, List.getElem?_append_right (by rw [prC_length]; omega), prC_length, show (k + 1) * 4 + j - 4 = k * 4 + j by omega, pr_at (by simpa using h) hj]
    simp
theorem spl_all (cs vs : List Value) (h : vs.length = cs.length) : spl cs 0 vs = vs := by simp [spl, List.drop_eq_nil_of_le, h]
theorem spl_appL {a b vs : List Value} {off : Nat} (h : off + vs.length ≤ a.length) : spl (a ++ b) off vs = spl a off vs ++ b := by
  unfold spl
  rw [List.take_append_of_le_length (by omega), List.drop_append_of_le_length h, List.append_assoc, List.append_assoc, List.append_assoc]
theorem spl_appR {a b vs : List Value} {off m : Nat} (h : m = a.length + off) : spl (a ++ b) m vs = a ++ spl b off vs := by
  subst h
  unfold spl
  rw [List.take_length_add_append, show a.length + off + vs.length = a.length + (off + vs.length) by omega, List.drop_length_add_append, List.append_assoc, List.append_assoc, List.append_assoc]
theorem pr_set : ∀ {l : List Pr} {k j : Nat} {vs : List Value} {y : Pr}, k < l.length → j + vs.length ≤ 4 → spl (prC (l.getD k Pr.zero)) j vs = prC y → spl (l.flatMap prC) (k * 4 + j) vs = (l.set k y).flatMap prC
  | [], k, j, vs, y, h, _, _ => by simp at h
  | x :: l, 0, j, vs, y, h, hj, e => by
    rw [List.flatMap_cons, show 0 * 4 + j = j by omega, spl_appL (by rw [prC_length]; omega)]
    rw [show (x :: l).getD 0 Pr.zero = x from rfl] at e
    rw [e]; rfl
  | x :: l, k + 1, j, vs, y, h, hj, e => by
    rw [List.flatMap_cons, spl_appR (off := k * 4 + j) (by rw [prC_length]; omega), pr_set (by simpa using h) hj (by simpa using e)]
    rfl
theorem PS.get_pr (p : PS) (k : Nat) : p.l.getD k Pr.zero = p.get k := rfl
/-- As the walk writes places. -/
theorem pr_atW {p : PS} {k j : Nat} {v : Value} (h : k < p.l.length) (hj : j < 4) (e : (prC (p.get k))[j]? = some v) : (p.l.flatMap prC)[0 + (k : Int).toNat * 4 + j]? = some v := by
  rw [Int.toNat_natCast, Nat.zero_add, pr_at h hj]; exact e
theorem pr_atA {p : PS} {k : Nat} (h : k < p.l.length) : ∀ j u, (prC (p.get k))[j]? = some u → (p.l.flatMap prC)[0 + (k : Int).toNat * 4 + j]? = some u := by
  intro j u hu
  have hj : j < 4 := by
    have := (List.getElem?_eq_some_iff.1 hu).1
    rwa [prC_length] at this
  exact pr_atW h hj hu
theorem pr_setW {p : PS} {k j : Nat} {v : Value} {y : Pr} (h : k < p.l.length) (hj : j < 4) (e : (prC (p.get k)).set j v = prC y) : spl (p.l.flatMap prC) (0 + (k : Int).toNat * 4 + j) [v] = (p.set k y).l.flatMap prC := by
  rw [Int.toNat_natCast, Nat.zero_add]
  refine pr_set h (by show j + 1 ≤ 4; omega) ?_
  rw [← e, List.set_eq_take_append_cons_drop, if_pos (by rw [prC_length]; exact hj)]
  unfold spl
  simp [PS.get]
theorem pr_setA {p : PS} {k : Nat} {y : Pr} (h : k < p.l.length) : spl (p.l.flatMap prC) (0 + (k : Int).toNat * 4) (prC y) = (p.set k y).l.flatMap prC := by
  rw [Int.toNat_natCast, Nat.zero_add]
  have := @pr_set p.l k 0 (prC y) y h (by rw [prC_length]; decide) (by unfold spl; simp [prC])
  simpa [PS.set] using this
theorem PS.set_len (p : PS) (k : Nat) (x : Pr) : (p.set k x).l.length = p.l.length := by simp [PS.set]
theorem PS.set_last (p : PS) (k : Nat) (x : Pr) : (p.set k x).last = p.last := rfl
theorem PS.get_set (p : PS) {k : Nat} (x : Pr) (h : k < p.l.length) : (p.set k x).get k = x := by
  simp [PS.get, PS.set, List.getD_eq_getElem?_getD, h]
theorem PS.set_set (p : PS) (k : Nat) (x y : Pr) : (p.set k x).set k y = p.set k y := by simp [PS.set]
/-- Peers that lie in a world. -/
structure PsAt (w : World) (b b2 cap : Nat) (p : PS) : Prop where
  c0 : w.cell? ⟨b, 0, none⟩ = some (.slice (some ⟨b2, 0, none⟩) p.l.length cap)
  c1 : w.cell? ⟨b, 1, none⟩ = some (.int .i64 (p.last : Int))
  row : ∀ j q, (p.l.flatMap prC)[j]? = some q → w.cell? ⟨b2, j, none⟩ = some q
theorem cell_keep {w w' : World} {E : List Nat} {L : List Ent} (hc : Cl w E L w') {a : Addr} {v : Value} (h : w.cell? a = some v) (hE : a.block ∉ E) : w'.cell? a = some v := by
  rw [hc.cell (World.block_lt_of_cell? _ _ h) hE]; exact h
theorem PsAt.mono {w w' : World} {b b2 cap : Nat} {p : PS} {L : List Ent} (h : PsAt w b b2 cap p) (hc : Cl w [] L w') : PsAt w' b b2 cap p :=
  ⟨cell_keep hc h.c0 (by simp), cell_keep hc h.c1 (by simp), fun j q hq => cell_keep hc (h.row j q hq) (by simp)⟩
theorem PsAt.at1 {w : World} {b b2 cap : Nat} {p : PS} (h : PsAt w b b2 cap p) {k j : Nat} {v : Value} (hk : k < p.l.length) (hj : j < 4) (e : (prC (p.get k))[j]? = some v) : w.cell? ⟨b2, 0 + (k : Int).toNat * 4 + j, none⟩ = some v :=
  h.row _ _ (pr_atW hk hj e)
theorem psAt_blk {w0 w : World} {E : List Nat} {L : List Ent} {b b2 cap : Nat} {p : PS} {T1 T2 : TypeId} {f1 f2 : Nat × Nat} (hc : Cl w0 E L w) (m1 : Ent.blk b [.slice (some ⟨b2, 0, none⟩) p.l.length cap, .int .i64 (p.last : Int)] T1 f1 ∈ L) (m2 : Ent.blk b2 (p.l.flatMap prC) T2 f2 ∈ L) : PsAt w b b2 cap p :=
  ⟨by rw [hc.cellAt m1]; rfl, by rw [hc.cellAt m1]; rfl, fun j q hq => by rw [hc.cellAt m2]; exact hq⟩
theorem psAt_row {w0 w : World} {E : List Nat} {L : List Ent} {b b2 cap c2 k2 s2 : Nat} {p : PS} {T1 T2 : TypeId} {f1 : Nat × Nat} (hc : Cl w0 E L w) (m1 : Ent.blk b [.slice (some ⟨b2, 0, none⟩) p.l.length cap, .int .i64 (p.last : Int)] T1 f1 ∈ L) (m2 : Ent.row (some b2) c2 k2 T2 s2 (p.l.flatMap prC) ∈ L) : PsAt w b b2 cap p :=
  ⟨by rw [hc.cellAt m1]; rfl, by rw [hc.cellAt m1]; rfl, fun j q hq => by have := row_cells m2 w hc j q hq; rw [add_mk, Nat.zero_add] at this; exact this⟩
/-- None, or some that hold nothing. -/
def NoneAt (w : World) (v : Value) : Prop := v = .pointer none ∨ ∃ b, v = .pointer (some ⟨b, 0, none⟩) ∧ w.cell? ⟨b, 0, none⟩ = some (.slice none 0 0)
theorem NoneAt.mono {w w' : World} {v : Value} {L : List Ent} (h : NoneAt w v) (hc : Cl w [] L w') : NoneAt w' v := by
  rcases h with h | ⟨b, h1, h2⟩
  · exact .inl h
  · exact .inr ⟨b, h1, cell_keep hc h2 (by simp)⟩
section
variable {P : Program} {n : Nat} {w0 : World} {E : List Nat} {o : Oper} {ρ : Nat → Value} {L : List Ent}
structure PrTy (P : Program) (S T0 T1 T2 T3 : TypeId) : Prop where
  fields : (P.fieldsOf S).toList.map (fun f => (f.name == "_", f.type, f.offset)) = [(false, T0, 0), (false, T1, 1), (false, T2, 2), (false, T3, 3)]
  und : P.underlying S = some (.struct (P.fieldsOf S))
  held : P.stoodInHeld S = false
  guard : P.eqGuardType P.depth S = false
  u0 : P.underlying T0 = some (.int .i64)
  i0 : ∃ s y, tinfo P T0 = some (s, false, y)
  u1 : P.underlying T1 = some (.int .i64)
  i1 : ∃ s y, tinfo P T1 = some (s, false, y)
  u2 : P.underlying T2 = some (.int .i64)
  i2 : ∃ s y, tinfo P T2 = some (s, false, y)
  u3 : P.underlying T3 = some .bool
  i3 : ∃ s y, tinfo P T3 = some (s, false, y)
theorem run_eq_pr {S T0 T1 T2 T3 : TypeId} (h : PrTy P S T0 T1 T2 T3) (x z : Pr) (w : World) : (Op.equalIn 10000 S (.agg (prC x).toArray) (.agg (prC z).toArray)).run P w = .ok (x.tries == z.tries && (x.strikes == z.strikes && (x.upto == z.upto && (x.barred == z.barred)))) w := by
  obtain ⟨hf, hu, hp, hg, u0, ⟨s0, y0, i0⟩, u1, ⟨s1, y1, i1⟩, u2, ⟨s2, y2, i2⟩, u3, ⟨s3, y3, i3⟩⟩ := h
  rw [run_equalIn_struct (P := P) w 9999 S _ _ hu hp]
  generalize (P.fieldsOf S).toList = fs at hf
  obtain ⟨f0, f1, f2, f3, rfl⟩ : ∃ f0 f1 f2 f3, fs = [f0, f1, f2, f3] := by
    have hlen : fs.length = 4 := by simpa using congrArg List.length hf
    match fs, hlen with
    | [f0, f1, f2, f3], _ => exact ⟨f0, f1, f2, f3, rfl⟩
  simp only [List.map_cons, List.map_nil, List.cons.injEq, Prod.mk.injEq, and_true] at hf
  obtain ⟨⟨n0, rfl, o0⟩, ⟨n1, rfl, o1⟩, ⟨n2, rfl, o2⟩, n3, rfl, o3⟩ := hf
  have m0 : f0.name ≠ "_" := by intro he; rw [he] at n0; simp at n0
  have m1 : f1.name ≠ "_" := by intro he; rw [he] at n1; simp at n1
  have m2 : f2.name ≠ "_" := by intro he; rw [he] at n2; simp at n2
  have m3 : f3.name ≠ "_" := by intro he; rw [he] at n3; simp at n3
  have p0 : ∀ (v : Pr) (w : World), (part f0.type (prC v).toArray f0.offset).run P w = .ok (.int .i64 v.tries) w := by
    intro v w; rw [o0]; simp [part, run_isAgg i0, prC]
  have p1 : ∀ (v : Pr) (w : World), (part f1.type (prC v).toArray f1.offset).run P w = .ok (.int .i64 v.strikes) w := by
    intro v w; rw [o1]; simp [part, run_isAgg i1, prC]
  have p2 : ∀ (v : Pr) (w : World), (part f2.type (prC v).toArray f2.offset).run P w = .ok (.int .i64 v.upto) w := by
    intro v w; rw [o2]; simp [part, run_isAgg i2, prC]
  have p3 : ∀ (v : Pr) (w : World), (part f3.type (prC v).toArray f3.offset).run P w = .ok (.bool v.barred) w := by
    intro v w; rw [o3]; simp [part, run_isAgg i3, prC]
  have e0 : (Op.equalIn 9999 f0.type (.int .i64 x.tries) (.int .i64 z.tries)).run P w = .ok (x.tries == z.tries) w := run_equalIn_int (P := P) w 9998 f0.type .i64 .i64 _ _ u0
  have e1 : (Op.equalIn 9999 f1.type (.int .i64 x.strikes) (.int .i64 z.strikes)).run P w = .ok (x.strikes == z.strikes) w := run_equalIn_int (P := P) w 9998 f1.type .i64 .i64 _ _ u1
  have e2 : (Op.equalIn 9999 f2.type (.int .i64 x.upto) (.int .i64 z.upto)).run P w = .ok (x.upto == z.upto) w := run_equalIn_int (P := P) w 9998 f2.type .i64 .i64 _ _ u2
  have e3 : (Op.equalIn 9999 f3.type (.bool x.barred) (.bool z.barred)).run P w = .ok (x.barred == z.barred) w := run_equalIn_bool' (P := P) w 9998 f3.type _ _ u3
  simp only [Op.eqFields, ne_eq, m0, m1, m2, m3, not_false_eq_true, if_true, Sem.run_bind, p0, p1, p2, p3, Result.andThen_ok, e0, e1, e2, e3, Sem.run_pure, Sem.run_ite]
  cases (x.tries == z.tries) <;> cases (x.strikes == z.strikes) <;> cases (x.upto == z.upto) <;> cases (x.barred == z.barred) <;> rfl
theorem yq_neq_pr {t t' T0 T1 T2 T3 : TypeId} {a b : Operand} {x : Pr} (h : o.op = .binOp .neq t a b t') (ha : ev n ρ a = .agg (prC x).toArray) (hb : ev n ρ b = .agg (prC x).toArray) (ht : PrTy P t T0 T1 T2 T3) :
    Yq P n w0 E o ρ L (.bool false) :=
  yq_val fun w _ => by
    simp only [execOp, h, ha, hb, Sem.run_bind, run_eqGuard_agg w _ _ _ _ _ _ ht.guard, Result.andThen_ok, run_neq_struct, run_eq_pr ht]
    simp
theorem yq_neq_ptnil {t t' : TypeId} {x y : Operand} {a : Option Addr} (h : o.op = .binOp .neq t x y t') (hx : ev n ρ x = .pointer a) (hy : ev n ρ y = .pointer none) (ht : P.underlying t = some (.pointer (P.pointee t))) : Yq P n w0 E o ρ L (.bool (!a.isNone)) :=
  yq_val fun w _ => by
    have hg : (eqGuard .neq t x y (.pointer a) (.pointer none)).run P w = .ok () w := by unfold eqGuard; simp
    have he := run_equal_pointer_nil (P := P) w t a ht
    simp [execOp, h, hx, hy, hg, binOp, he]
theorem yq_max {ats : Array TypeId} {x y : Operand} {k : IntKind} {a b r : Int} (h : o.op = .call ⟨.builtin .max, [x, y].toArray, ats⟩) (hx : ev n ρ x = .int k a) (hy : ev n ρ y = .int k b) (hr : (if a < b then b else a) = r) : Yq P n w0 E o ρ L (.int k r) :=
  yq_val fun w _ => by simp [execOp, h, resolve, hx, hy, invoke, builtin, Builtin.max_, Builtin.max2, hr]
theorem rv_agg {p b y : Nat} {T Tb : TypeId} {fz : Nat × Nat} {vs : List Value} (hp : p < n) (ha : ρ p = .pointer (some ⟨b, 0, none⟩)) (ti : tinfo P T = some (vs.length, true, y)) (hm : Ent.blk b vs Tb fz ∈ L) : RVal P n w0 E ρ L (.cell p T) (.agg vs.toArray) :=
  ⟨hp, _, ha, fun w hw => run_load_agg ti fun j u hu => by rw [hw.cellAt hm]; simpa using hu⟩
/-- A field of a peer of a row is set. -/
theorem OW.putPr {ops : Array Oper} {rest : List Oper} {Q : Post} {a x : Operand} {v : Value} {b2 cap m k j : Nat} {p : PS} {z y : Pr} {T T2 : TypeId} {L' : List Ent} {g : Bool} {by_ : Nat}
    (hw : Region.wanted o (yl n ops ρ) = true) (hd : o.dst = none) (h : o.op = .store T a x) (ha : ev n ρ a = .pointer (some ⟨b2, 0 + (k : Int).toNat * 4 + j, none⟩)) (hx : ev n ρ x = v)
    (ti : tinfo P T = some (1, g, by_)) (hv : v.cells = #[v]) (h1 : v.oneCell' = true) (hk : k < p.l.length) (hj : j < 4)
    (hput : Put (.row (some b2) cap m T2 4 ((p.set k z).l.flatMap prC)) (.row (some b2) cap m T2 4 ((p.set k y).l.flatMap prC)) L L') (e : (prC z).set j v = prC y)
    (hn : OW P n w0 E ops rest Q ρ L') : OW P n w0 E ops (o :: rest) Q ρ L := by
  have hk' : k < (p.set k z).l.length := by rw [PS.set_len]; exact hk
  refine OW.storeR (vs := [v]) hw hd h ha hx ti hv (by intro u hu; rw [List.mem_singleton.1 hu]; exact h1) hput ?_ ?_ hn
  · rw [pr_setW (y := y) hk' hj (by rw [PS.get_set _ _ hk]; exact e), PS.set_set]
  · rw [prl_length, PS.set_len, Int.toNat_natCast]; simp; omega
theorem PS.set_get {p : PS} {k : Nat} (h : k < p.l.length) : p.set k (p.get k) = p := by
  unfold PS.set PS.get
  rw [List.getD_eq_getElem?_getD, List.getElem?_eq_getElem h]
  simp
theorem row_at {w : World} {b2 cap m k j : Nat} {p : PS} {z : Pr} {T2 : TypeId} {s2 : Nat} {v : Value} (hc : Cl w0 E L w) (hm : Ent.row (some b2) cap m T2 s2 ((p.set k z).l.flatMap prC) ∈ L) (hk : k < p.l.length) (hj : j < 4) (e : (prC z)[j]? = some v) : w.cell? ⟨b2, 0 + (k : Int).toNat * 4 + j, none⟩ = some v := by
  have hk' : k < (p.set k z).l.length := by rw [PS.set_len]; exact hk
  have := row_cells hm w hc _ _ (pr_atW hk' hj (by rw [PS.get_set _ _ hk]; exact e))
  rw [add_mk, Nat.zero_add] at this
  exact this
end
def actS (f : Pr → Pr) (p : PS) (i : Int) : PS := if inP p i then p.set i.toNat (f (p.get i.toNat)) else p
def actE (p : PS) (i : Int) : Int := if inP p i then 0 else 4
def stateX (p : PS) (i : Int) : Pr := if inP p i then p.get i.toNat else Pr.zero
theorem actS_in {f : Pr → Pr} {p : PS} {k : Nat} (h : k < p.l.length) : actS f p (k : Int) = p.set k (f (p.get k)) := by
  unfold actS; rw [if_pos (by unfold inP; omega), Int.toNat_natCast]
theorem actS_out {f : Pr → Pr} {p : PS} {i : Int} (h : ¬ inP p i) : actS f p i = p := by unfold actS; rw [if_neg h]
theorem actE_in {p : PS} {i : Int} (h : inP p i) : actE p i = 0 := by unfold actE; rw [if_pos h]
theorem actE_out {p : PS} {i : Int} (h : ¬ inP p i) : actE p i = 4 := by unfold actE; rw [if_neg h]
theorem stateX_in {p : PS} {k : Nat} (h : k < p.l.length) : stateX p (k : Int) = p.get k := by
  unfold stateX; rw [if_pos (by unfold inP; omega), Int.toNat_natCast]
theorem stateX_out {p : PS} {i : Int} (h : ¬ inP p i) : stateX p i = Pr.zero := by unfold stateX; rw [if_neg h]
theorem actS_len (f : Pr → Pr) (p : PS) (i : Int) : (actS f p i).l.length = p.l.length := by
  unfold actS; split
  · exact PS.set_len _ _ _
  · rfl
theorem actS_last (f : Pr → Pr) (p : PS) (i : Int) : (actS f p i).last = p.last := by
  unfold actS; split <;> rfl
theorem actS_ok {f : Pr → Pr} {p : PS} (h : p.ok) (i : Int) (hf : ∀ x, x.ok → (f x).ok) : (actS f p i).ok := by
  unfold actS; split
  · exact PS.set_ok h _ (hf _ (PS.get_ok h _))
  · exact h
theorem made_pr : ∀ {n : Nat}, 1 ≤ n → n ≤ 8 → (madeCells (prC Pr.zero).toArray (n * 4)).toList = (PS.new n).l.flatMap prC
  | 0, h, _ => absurd h (by decide)
  | 1, _, _ => by kernel_rfl
  | 2, _, _ => by kernel_rfl
  | 3, _, _ => by kernel_rfl
  | 4, _, _ => by kernel_rfl
  | 5, _, _ => by kernel_rfl
  | 6, _, _ => by kernel_rfl
  | 7, _, _ => by kernel_rfl
  | 8, _, _ => by kernel_rfl
  | n + 9, _, h => absurd h (by omega)
theorem parole_shl {s : Int} (h : 0 ≤ s) : IntKind.i64.wrap (64 * 2 ^ min (if 4 < s then (4 : Int) else s).toNat IntKind.i64.bits) = paroleP s := by
  by_cases h4 : 4 < s
  · rw [if_pos h4, show paroleP s = 1024 by unfold paroleP; omega]; decide +kernel
  · rw [if_neg h4]
    rcases (by omega : s = 0 ∨ s = 1 ∨ s = 2 ∨ s = 3 ∨ s = 4) with rfl | rfl | rfl | rfl | rfl <;> decide +kernel
/-- What is told of the next one. -/
def nextV (p : PS) (now : Int) : Value := match nextI p now with
  | none => .tuple #[.int .i64 0, .bool false]
  | some i => .tuple #[.int .i64 (i : Int), .bool true]
theorem new_len (n : Nat) : (PS.new n).l.length = n := by simp [PS.new]
theorem nextS_l (p : PS) (now : Int) : (nextS p now).l = p.l := by
  unfold nextS; cases nextI p now <;> rfl
theorem tmod_nat (a b k : Nat) : Int.tmod ((a : Int) + (k : Int)) (b : Int) = (((a + k) % b : Nat) : Int) := rfl
theorem next_some {p : PS} {now : Int} {i : Nat} (h : nextI p now = some i) : nextV p now = .tuple #[.int .i64 (i : Int), .bool true] ∧ nextS p now = ⟨p.l, i⟩ := by
  unfold nextV nextS; rw [h]; exact ⟨rfl, rfl⟩
theorem next_none {p : PS} {now : Int} (h : nextI p now = none) : nextV p now = .tuple #[.int .i64 0, .bool false] ∧ nextS p now = p := by
  unfold nextV nextS; rw [h]; exact ⟨rfl, rfl⟩
theorem permF {x y z : Ent} {L : List Ent} : List.Perm (x :: y :: z :: L) (y :: z :: x :: L) := (List.Perm.swap y x (z :: L)).trans (List.Perm.cons y (List.Perm.swap z x L))
/-- The peers of the drill, behind each of its acts. -/
def qs (i : Nat) : PS := ⟨(PS.new 3).l, (i + 2) % 3⟩
def q0 : PS := ⟨[Pr.zero, Pr.zero, Pr.zero], 0⟩
def q1 : PS := ⟨[⟨0, 1, 74, true⟩, Pr.zero, Pr.zero], 0⟩
def q2 : PS := ⟨[⟨0, 2, 208, true⟩, Pr.zero, Pr.zero], 0⟩
def q3 : PS := ⟨[⟨0, 2, 208, true⟩, ⟨1, 0, 6, false⟩, Pr.zero], 0⟩
def q4 : PS := ⟨[⟨0, 2, 208, true⟩, ⟨1, 0, 6, false⟩, ⟨0, 0, 9, false⟩], 0⟩
theorem qs_ok (i : Nat) : (qs i).ok := by
  obtain ⟨h1, h2, h3, h4⟩ := PS.new_ok (n := 3) (by decide) (by decide)
  exact ⟨h1, h2, by show (i + 2) % 3 < 3; omega, h4⟩
theorem qs_next : ∀ {i : Nat}, i < 4 → nextI (qs i) 0 = some (i % 3)
  | 0, _ => by decide +kernel
  | 1, _ => by decide +kernel
  | 2, _ => by decide +kernel
  | 3, _ => by decide +kernel
  | n + 4, h => absurd h (by omega)
theorem q0_ok : q0.ok := by
  refine ⟨by decide, by decide, by decide, fun x hx => ?_⟩
  simp only [q0, List.mem_cons, List.not_mem_nil, or_false] at hx
  rcases hx with rfl | rfl | rfl <;> exact Pr.zero_ok
theorem q1_e : actS (fun x => badP x 10) q0 0 = q1 := rfl
theorem q2_e : actS (fun x => badP x 80) q1 0 = q2 := rfl
theorem q3_e : actS (fun x => lateP x 5 ((7 : UInt8).toNat : Int)) q2 1 = q3 := rfl
theorem q4_e : actS (fun x => idleP x 5) q3 2 = q4 := rfl
theorem q1_ok : q1.ok := q1_e ▸ actS_ok q0_ok _ fun _ h => bad_ok h _
theorem q2_ok : q2.ok := q2_e ▸ actS_ok q1_ok _ fun _ h => bad_ok h _
theorem q3_ok : q3.ok := q3_e ▸ actS_ok q2_ok _ fun _ h => late_ok h _ _
theorem q4_ok : q4.ok := q4_e ▸ actS_ok q3_ok _ fun _ h => idle_ok h _
theorem q4_next : nextI q4 5 = none := by decide +kernel
end Go.Proofs.Ytahdekllphehkaa
