/- Arrays of bytes: equal, loaded, stored; slices of hashes; no statement of the seat is proved here. -/
import Derived.Test.YtahdekllphehkaaDoorL9
import Derived.Laws.StructEq
namespace Go.WL
open Go.Spec
set_option linter.unusedVariables false
set_option linter.unusedSimpArgs false
section
variable {P : Program} {n : Nat} {w0 : World} {E : List Nat} {o : Oper} {ρ : Nat → Value} {L : List Ent}

theorem run_part1 {e : TypeId} {s y : Nat} (ti : tinfo P e = some (s, false, y)) (l : Bytes) (j : Nat) (h : j < l.length) (w : World) : (part e (bc l).toArray j).run P w = .ok (U8 l[j]) w := by
  simp [part, run_isAgg ti, bc, h]

theorem eq_from (a b : Bytes) (m : Nat) : a.drop m = b.drop m ↔ (a.drop m == b.drop m) = true := by simp

theorem run_eq_arr0 {t e : TypeId} {k y d : Nat} (ht : P.underlying t = some (.array k e)) (hq : ∀ (x z : UInt8) (w : World), (Op.equalIn d e (U8 x) (U8 z)).run P w = .ok (decide (x = z)) w) (ti : tinfo P e = some (1, false, y)) (a b : Bytes) (ha : a.length = k) (hb : b.length = k) (w : World) :
    (Op.equalIn (d + 1) t (.agg (bc a).toArray) (.agg (bc b).toArray)).run P w = .ok (decide (a = b)) w := by
  simp only [Op.equalIn, Sem.run_bind, run_und ht, Result.andThen_ok, run_size ti]
  rw [Std.Legacy.Range.forIn_eq_forIn_range']
  simp only [Std.Legacy.Range.size, Nat.sub_zero, Nat.add_sub_cancel, Nat.div_one, Nat.mul_one]
  have key : ∀ (q m : Nat), m + q = k → a.take m = b.take m → ∀ w, ((forIn (List.range' m q) (none, PUnit.unit) fun i (r : Option Bool × PUnit) => do
      let x ← part e (bc a).toArray i
      let y ← part e (bc b).toArray i
      let __do_lift ← Op.equalIn d e x y
      if (!__do_lift) = true then pure (ForInStep.done (some false, PUnit.unit)) else pure (ForInStep.yield (none, PUnit.unit))) : Sem (Option Bool × PUnit)).run P w = .ok (if a = b then none else some false, PUnit.unit) w := by
    intro q
    induction q with
    | zero =>
      intro m hm hpre w
      have : a = b := by
        rw [← List.take_length (l := a), ← List.take_length (l := b), ha, hb, ← hm]
        simpa using hpre
      simp [this]
    | succ q ih =>
      intro m hm hpre w
      have h1 : m < a.length := by omega
      have h2 : m < b.length := by omega
      rw [List.range'_succ, List.forIn_cons]
      simp only [Sem.run_bind, run_part1 ti a m h1, run_part1 ti b m h2, Result.andThen_ok, hq]
      by_cases hx : a[m] = b[m]
      · simp only [hx, decide_true, Bool.not_true, Bool.false_eq_true, if_false, Sem.run_pure, Result.andThen_ok]
        exact ih (m + 1) (by omega) (by rw [List.take_succ_eq_append_getElem h1, List.take_succ_eq_append_getElem h2, hpre, hx]) w
      · have hne : a ≠ b := fun h => hx (by simp [h])
        simp only [hx, decide_false, Bool.not_false, if_true, Sem.run_pure, Result.andThen_ok, hne, if_false]
  rw [key k 0 (by omega) (by simp) w]
  by_cases hab : a = b <;> simp [hab]
theorem run_eq_arr {t e : TypeId} {k y : Nat} (ht : P.underlying t = some (.array k e)) (he : P.underlying e = some (.int .u8)) (ti : tinfo P e = some (1, false, y)) (a b : Bytes) (ha : a.length = k) (hb : b.length = k) (w : World) :
    (Op.equalIn 10000 t (.agg (bc a).toArray) (.agg (bc b).toArray)).run P w = .ok (decide (a = b)) w := by
  refine run_eq_arr0 (d := 9999) ht (fun x z w => ?_) ti a b ha hb w
  rw [run_equalIn_int w 9998 e .u8 .u8 _ _ he]
  congr 1
  by_cases h : x = z
  · simp [h]
  · have : ¬ ((x.toNat : Int) = (z.toNat : Int)) := fun h' => h (UInt8.toNat_inj.1 (Int.ofNat_inj.1 h'))
    simp only [h, decide_false]
    exact beq_eq_false_iff_ne.2 this

theorem toList_inj {a b : Hash} : a.toList = b.toList ↔ a = b := by
  constructor
  · intro h
    cases a with | mk a ha => cases b with | mk b hb => simp_all
  · intro h; rw [h]

variable {t t' e : TypeId} {y : Nat}
theorem yq_eql_H {x z : Operand} {a b : Hash} (h : o.op = .binOp .eql t x z t') (hx : ev n ρ x = HV a) (hz : ev n ρ z = HV b) (ht : tarr P t = some (32, e)) (he : P.underlying e = some (.int .u8)) (ti : tinfo P e = some (1, false, y)) (hg : P.eqGuardType P.depth t = false) :
    Yq P n w0 E o ρ L (.bool (decide (a = b))) :=
  yq_val fun w _ => by
    simp only [execOp, h, hx, hz, HV, Sem.run_bind, run_eqGuard_agg w _ _ _ _ _ _ hg, Result.andThen_ok, run_eql_struct, hc, run_eq_arr (und_arr ht) he ti a.toList b.toList (by simp) (by simp)]
    simp [toList_inj]
theorem yq_neq_H {x z : Operand} {a b : Hash} (h : o.op = .binOp .neq t x z t') (hx : ev n ρ x = HV a) (hz : ev n ρ z = HV b) (ht : tarr P t = some (32, e)) (he : P.underlying e = some (.int .u8)) (ti : tinfo P e = some (1, false, y)) (hg : P.eqGuardType P.depth t = false) :
    Yq P n w0 E o ρ L (.bool (decide (a ≠ b))) :=
  yq_val fun w _ => by
    simp only [execOp, h, hx, hz, HV, Sem.run_bind, run_eqGuard_agg w _ _ _ _ _ _ hg, Result.andThen_ok, run_neq_struct, hc, run_eq_arr (und_arr ht) he ti a.toList b.toList (by simp) (by simp)]
    simp [toList_inj]
/-- A result said by an equation. -/
theorem Yq.to {v v' : Value} (h : Yq P n w0 E o ρ L v) (e : v = v') : Yq P n w0 E o ρ L v' := e ▸ h

theorem OW.storeH {ops : Array Oper} {rest : List Oper} {Q : Post} {a x : Operand} {v : Hash} {b : Nat} {cs : List Value} {T Tb : TypeId} {L' : List Ent} {g : Bool} {by_ : Nat}
    (hw : Region.wanted o (yl n ops ρ) = true) (hd : o.dst = none) (h : o.op = .store T a x) (ha : ev n ρ a = .pointer (some ⟨b, 0, none⟩)) (hx : ev n ρ x = HV v)
    (ti : tinfo P T = some (32, g, by_)) (hp : Put (.blk b cs Tb (0, 0)) (.blk b (hc v) Tb (0, 0)) L L') (hl : cs.length = 32)
    (hn : OW P n w0 E ops rest Q ρ L') : OW P n w0 E ops (o :: rest) Q ρ L :=
  OW.store' (vs := hc v) hw hd h ha hx (by rw [hc_length]; exact ti) rfl (hc_one _) hp (by unfold spl; simp [List.drop_eq_nil_of_le, hl]) (by rw [hc_length, hl]; exact Nat.le_refl _) hn
theorem rv_hash {p b : Nat} {T Tb : TypeId} {fz : Nat × Nat} {v : Hash} (hp : p < n) (ha : ρ p = .pointer (some ⟨b, 0, none⟩)) (ti : tinfo P T = some (32, true, y)) (hm : Ent.blk b (hc v) Tb fz ∈ L) : RVal P n w0 E ρ L (.cell p T) (HV v) :=
  ⟨hp, _, ha, fun w hw => run_load_agg (by rw [hc_length]; exact ti) fun j u hu => by rw [hw.cellAt hm]; simpa using hu⟩
theorem yq_loadH {T Tb : TypeId} {fz : Nat × Nat} {a : Operand} {b : Nat} {v : Hash} (h : o.op = .load T a) (ha : ev n ρ a = .pointer (some ⟨b, 0, none⟩)) (ti : tinfo P T = some (32, true, y))
    (hm : Ent.blk b (hc v) Tb fz ∈ L) : Yq P n w0 E o ρ L (HV v) :=
  yq_loadW (cs := hc v) h ha (by rw [hc_length]; exact ti) hm
/-- The whole of an array as a slice. -/
theorem yq_slice_arr_all {T e : TypeId} {x : Operand} {b k s : Nat} {g : Bool} (ho : o.op = .slice T x none none none) (hx : ev n ρ x = .pointer (some ⟨b, 0, none⟩)) (ht : tarr P T = some (k + 1, e)) (ti : tinfo P e = some (s, g, y)) :
    Yq P n w0 E o ρ L (.slice (some ⟨b, 0, none⟩) (k + 1) (k + 1)) := by
  have := yq_slice_arr (P := P) (w0 := w0) (E := E) (L := L) (l := 0) (h := k + 1) ho hx ht ti rfl rfl (Nat.zero_le _) (Nat.le_refl _)
  rw [if_neg (by omega)] at this
  simpa using this

theorem yq_makeFunc {f : Fn} {xs cs : List Operand} {vs ws : List Value} (h : o.op = .makeFunc f xs.toArray cs.toArray) (hx : xs.map (ev n ρ) = vs) (hc : cs.map (ev n ρ) = ws) : Yq P n w0 E o ρ L (.func f vs.toArray ws.toArray) :=
  yq_val fun w _ => by
    subst hx; subst hc
    simp [execOp, h, Instr.makeFunc]
theorem know_row {a : Option Nat} {cap k s : Nat} {T : TypeId} {xs : List Value} (hm : Ent.row a cap k T s xs ∈ L) (hk : 0 < k) : ∀ w, Cl w0 E L w → ∃ g, a = some g := by
  intro w hw
  have h : (Ent.row a cap k T s xs).ok w := hw.own _ hm
  cases a with
  | some g => exact ⟨g, rfl⟩
  | none =>
    rcases h.2 with ⟨_, h2⟩ | ⟨g, _, _, hv, _⟩
    · omega
    · simp [rowV] at hv
theorem row_cells {g cap k s : Nat} {T : TypeId} {xs : List Value} (hm : Ent.row (some g) cap k T s xs ∈ L) : ∀ w, Cl w0 E L w → ∀ j u, xs[j]? = some u → w.cell? ((⟨g, 0, none⟩ : Addr).add j) = some u :=
  fun w hw j u hu => World.ownsRow.cells (hw.own _ hm) (g := g) rfl j u hu
/-! ### slices of hashes -/
/-- A value that reads as hashes. -/
def HsAt (w : World) (v : Value) (l : List Hash) : Prop :=
  ∃ a cap, v = .slice a l.length cap ∧ l.length ≤ cap ∧ (l = [] ∨ ∃ b off, a = some ⟨b, off, none⟩ ∧ ∀ j u, (l.flatMap hc)[j]? = some u → w.cell? ⟨b, off + j, none⟩ = some u)
theorem flat_length (l : List Hash) : (l.flatMap hc).length = 32 * l.length := by
  induction l with
  | nil => rfl
  | cons a l ih => rw [List.flatMap_cons, List.length_append, ih, hc_length, List.length_cons]; omega
theorem flat_drop (l : List Hash) (k : Nat) : (l.flatMap hc).drop (32 * k) = (l.drop k).flatMap hc := by
  induction k generalizing l with
  | zero => simp
  | succ k ih =>
    cases l with
    | nil => simp
    | cons a l =>
      rw [List.flatMap_cons, show 32 * (k + 1) = (hc a).length + 32 * k by rw [hc_length]; omega, ← List.drop_drop, List.drop_left, ih, List.drop_succ_cons]
theorem flat_take (l : List Hash) (k : Nat) : (l.flatMap hc).take (32 * k) = (l.take k).flatMap hc := by
  induction k generalizing l with
  | zero => simp
  | succ k ih =>
    cases l with
    | nil => simp
    | cons a l =>
      rw [List.flatMap_cons, show 32 * (k + 1) = (hc a).length + 32 * k by rw [hc_length]; omega, List.take_length_add_append, ih, List.take_succ_cons, List.flatMap_cons]
theorem flat_at (l : List Hash) (k j : Nat) (hk : k < l.length) (hj : j < 32) : (l.flatMap hc)[32 * k + j]? = (hc l[k])[j]? := by
  rw [← List.getElem?_drop, flat_drop, List.drop_eq_getElem_cons hk, List.flatMap_cons, List.getElem?_append_left (by rw [hc_length]; exact hj)]
theorem HsAt.mono {v : Value} {l : List Hash} {w w' : World} {L' : List Ent} (h : HsAt w v l) (hc' : Cl w [] L' w') : HsAt w' v l := by
  obtain ⟨a, cap, rfl, hle, h⟩ := h
  refine ⟨a, cap, rfl, hle, ?_⟩
  rcases h with h | ⟨b, off, rfl, hcell⟩
  · exact .inl h
  · by_cases hl : l = []
    · exact .inl hl
    · refine .inr ⟨b, off, rfl, fun j u hu => ?_⟩
      have h1 := hcell j u hu
      rw [hc'.cell ?_ (by simp)]
      · exact h1
      · show b < w.heap.size
        by_cases hb : b < w.heap.size
        · exact hb
        · simp [World.cell?, Array.getElem?_eq_none (Nat.le_of_not_lt hb)] at h1
theorem HsAt.len {v : Value} {l : List Hash} {w : World} (h : HsAt w v l) : ∃ a cap, v = .slice a l.length cap := by
  obtain ⟨a, cap, h, _⟩ := h; exact ⟨a, cap, h⟩
/-- One of them. -/
theorem HsAt.at {w : World} {b off len cap : Nat} {l : List Hash} (h : HsAt w (.slice (some ⟨b, off, none⟩) len cap) l) (i : Nat) (hi : i < l.length) : ∀ j u, (hc l[i])[j]? = some u → w.cell? ⟨b, (off + i * 32) + j, none⟩ = some u := by
  intro j u hu
  obtain ⟨a, cap', hv, hle, h⟩ := h
  rcases h with h | ⟨b', off', rfl, hcell⟩
  · subst h; cases hi
  · simp only [Value.slice.injEq, Option.some.injEq, Addr.mk.injEq] at hv
    obtain ⟨⟨rfl, rfl, _⟩, _⟩ := hv
    have hj : j < 32 := by
      rcases Nat.lt_or_ge j 32 with h | h
      · exact h
      · rw [List.getElem?_eq_none (by rw [hc_length]; exact h)] at hu; cases hu
    have := hcell (32 * i + j) u (by rw [flat_at l i j hi hj]; exact hu)
    rwa [show off + i * 32 + j = off + (32 * i + j) by omega]
/-- One that is not none has a place. -/
theorem HsAt.place {w : World} {v : Value} {l : List Hash} (h : HsAt w v l) (hl : l ≠ []) : ∃ b off cap, v = .slice (some ⟨b, off, none⟩) l.length cap ∧ l.length ≤ cap := by
  obtain ⟨a, cap, rfl, hle, h⟩ := h
  rcases h with h | ⟨b, off, rfl, _⟩
  · exact absurd h hl
  · exact ⟨b, off, cap, rfl, hle⟩
theorem HsAt.slice {w : World} {b off cap : Nat} {l : List Hash} (h : HsAt w (.slice (some ⟨b, off, none⟩) l.length cap) l) (i j : Nat) (hij : i ≤ j) (hj : j ≤ l.length) :
    HsAt w (.slice (some ⟨b, if cap = i then off else off + i * 32, none⟩) (j - i) (cap - i)) ((l.drop i).take (j - i)) := by
  obtain ⟨a, cap', hv, hle, h⟩ := h
  simp only [Value.slice.injEq, true_and] at hv
  obtain ⟨rfl, rfl⟩ := hv
  have hlen : ((l.drop i).take (j - i)).length = j - i := by simp; omega
  refine ⟨some ⟨b, if cap = i then off else off + i * 32, none⟩, cap - i, by rw [hlen], by rw [hlen]; omega, ?_⟩
  by_cases hlt : i = j
  · subst hlt; exact .inl (by simp)
  · rw [if_neg (by omega)]
    refine .inr ⟨b, off + i * 32, rfl, fun q u hu => ?_⟩
    rcases h with h | ⟨b', off', he, hcell⟩
    · subst h; simp at hj; omega
    · simp only [Option.some.injEq, Addr.mk.injEq] at he
      obtain ⟨rfl, rfl, _⟩ := he
      rw [← flat_take, ← flat_drop] at hu
      have hq : q < 32 * (j - i) := by
        rcases Nat.lt_or_ge q (32 * (j - i)) with h | h
        · exact h
        · rw [List.getElem?_eq_none (by simp; omega)] at hu; cases hu
      rw [List.getElem?_take_of_lt hq, List.getElem?_drop] at hu
      have := hcell _ u hu
      rwa [show off + i * 32 + q = off + (32 * i + q) by omega]
/-- A row of hashes of ours. -/
theorem HsAt.row {w : World} {a : Option Nat} {cap k : Nat} {T : TypeId} {l : List Hash} (hk : k = l.length) (h : (Ent.row a cap k T 32 (l.flatMap hc)).ok w) : HsAt w (rowV a k cap) l := by
  subst hk
  cases a with
  | none =>
    rcases h.2 with ⟨hv, h2⟩ | ⟨g, cap', cur, hv, _⟩
    · exact ⟨none, cap, rfl, by omega, .inl (List.eq_nil_of_length_eq_zero h2)⟩
    · simp [rowV] at hv
  | some b =>
    rcases h.2 with ⟨hv, h2⟩ | ⟨g, cap', cur, hv, _, _, hle, _⟩
    · simp [rowV] at hv
    · simp only [rowV, Option.map_some, Value.slice.injEq] at hv
      obtain ⟨_, _, rfl⟩ := hv
      refine ⟨some ⟨b, 0, none⟩, cap, rfl, hle, .inr ⟨b, 0, rfl, fun j u hu => ?_⟩⟩
      have := World.ownsRow.cells h (g := b) rfl j u hu
      rwa [add_mk] at this
/-- A block of hashes of ours. -/
theorem HsAt.blk {w : World} {b : Nat} {cap : Nat} {T : TypeId} {fz : Nat × Nat} {l : List Hash} {cs : List Value} (hcap : l.length ≤ cap) (hpre : ∀ (j : Nat) (u : Value), (l.flatMap hc)[j]? = some u → cs[j]? = some u) (h : (Ent.blk b cs T fz).ok w) : HsAt w (.slice (some ⟨b, 0, none⟩) l.length cap) l := by
  refine ⟨_, cap, rfl, hcap, .inr ⟨b, 0, rfl, fun j u hu => ?_⟩⟩
  have h' : w.heap[b]? = some (.cells cs.toArray T fz) := h
  simp [World.cell?, h', hpre j u hu]
theorem Cl.keep {w : World} (h : Cl w0 [] L w) {p : Addr} {u : Value} (hu : w0.cell? p = some u) : w.cell? p = some u := by
  rw [h.cell ?_ (by simp)]
  · exact hu
  · by_cases hb : p.block < w0.heap.size
    · exact hb
    · simp [World.cell?, Array.getElem?_eq_none (Nat.le_of_not_lt hb)] at hu
/-- A hash of a slice of hashes. -/
theorem yq_load_hs {T : TypeId} {a : Operand} {b off len cap i : Nat} {l : List Hash} {v : Hash} (h : o.op = .load T a) (ha : ev n ρ a = .pointer (some ⟨b, off + i * 32, none⟩)) (ti : tinfo P T = some (32, true, y))
    (hs : ∀ w, Cl w0 E L w → HsAt w (.slice (some ⟨b, off, none⟩) len cap) l) (hv : l[i]? = some v) : Yq P n w0 E o ρ L (HV v) := by
  have hi : i < l.length := by
    rcases Nat.lt_or_ge i l.length with h | h
    · exact h
    · rw [List.getElem?_eq_none h] at hv; cases hv
  have hv' : l[i] = v := by rw [List.getElem?_eq_getElem hi] at hv; exact Option.some.inj hv
  subst hv'
  exact yq_load_c h ha (fun w hw => run_load_agg (by rw [hc_length]; exact ti) ((hs w hw).at i hi))
theorem at_of_lt {l : List Hash} {i : Nat} (h : i < l.length) : l[i]? = some (l.getD i zeroHash) := by simp [List.getD_eq_getElem?_getD, h]
end
end Go.WL
