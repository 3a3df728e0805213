/- Calls to which two blocks are lent; small helpers on rows; no statement of the seat is proved here. -/
import Derived.Test.YtahdekllphehkaaDoorL15
import Derived.Lib.LazyBuf
import Derived.Laws.Pointers
import Derived.Laws.Cover3
namespace Go.WL
open Go.Spec
set_option linter.unusedVariables false
set_option linter.unusedSimpArgs false
section
variable {P : Program} {n : Nat} {w0 : World} {E : List Nat} {o : Oper} {ρ : Nat → Value} {L : List Ent}

/-- A call to which our two first entries are lent. -/
theorem OW.callB {ops : Array Oper} {rest : List Oper} {Q : Post} {c : Operand} {xs : List Operand} {ats : Array TypeId} {f : FuncId} {vs : List Value} {d : Tmp} {x y : Ent} {Lk : List Ent} {K : Value → List Ent → Prop}
    (hw : Region.wanted o (yl n ops ρ) = true) (hd : o.dst = some d) (h : o.op = .call ⟨.value c, xs.toArray, ats⟩)
    (hc : ev n ρ c = .func (.func f) #[] #[]) (hx : Args n ρ xs vs) (he : ∀ args w, (callFunc f args).run P w = .ok (.enter f args) w)
    (hk : ∀ w, Cl w0 E (x :: y :: Lk) w → Calls P f vs.toArray w fun e w' => ∃ v L1, e = .returned v ∧ Cl w (x.fp.toList ++ y.fp.toList) L1 w' ∧ K v L1)
    (hn : ∀ v L1, K v L1 → OW P n w0 E ops rest Q (upd ρ d v) (L1 ++ Lk)) : OW P n w0 E ops (o :: rest) Q ρ (x :: y :: Lk) := by
  have hE : ∀ b ∈ x.fp.toList ++ y.fp.toList, ∃ z ∈ [x, y], z.fp = some b := by
    intro b hb
    rcases List.mem_append.1 hb with hb | hb
    · exact ⟨x, by simp, by simpa using hb⟩
    · exact ⟨y, by simp, by simpa using hb⟩
  refine OW.calle (x.fp.toList ++ y.fp.toList) Lk hw hd h hc hx he (fun b hb => ?_) ((List.sublist_cons_self _ _).trans (List.sublist_cons_self _ _)) (fun w hw => lend_apart (A := [x, y]) hw hE) hk hn
  obtain ⟨z, hz, hzb⟩ := hE b hb
  exact ⟨z, by simp at hz ⊢; rcases hz with rfl | rfl <;> simp, hzb⟩
/-- A call to which our first entry is lent. -/
theorem OW.callA {ops : Array Oper} {rest : List Oper} {Q : Post} {c : Operand} {xs : List Operand} {ats : Array TypeId} {f : FuncId} {vs : List Value} {d : Tmp} {x : Ent} {Lk : List Ent} {K : Value → List Ent → Prop}
    (hw : Region.wanted o (yl n ops ρ) = true) (hd : o.dst = some d) (h : o.op = .call ⟨.value c, xs.toArray, ats⟩)
    (hc : ev n ρ c = .func (.func f) #[] #[]) (hx : Args n ρ xs vs) (he : ∀ args w, (callFunc f args).run P w = .ok (.enter f args) w)
    (hk : ∀ w, Cl w0 E (x :: Lk) w → Calls P f vs.toArray w fun e w' => ∃ v L1, e = .returned v ∧ Cl w x.fp.toList L1 w' ∧ K v L1)
    (hn : ∀ v L1, K v L1 → OW P n w0 E ops rest Q (upd ρ d v) (L1 ++ Lk)) : OW P n w0 E ops (o :: rest) Q ρ (x :: Lk) := by
  have hE : ∀ b ∈ x.fp.toList, ∃ z ∈ [x], z.fp = some b := fun b hb => ⟨x, by simp, by simpa using hb⟩
  refine OW.calle x.fp.toList Lk hw hd h hc hx he (fun b hb => ?_) (List.sublist_cons_self _ _) (fun w hw => lend_apart (A := [x]) hw hE) hk hn
  obtain ⟨z, hz, hzb⟩ := hE b hb
  exact ⟨z, by simp at hz ⊢; exact .inl hz, hzb⟩
theorem perm22 {a b c d : Ent} {R : List Ent} : (a :: b :: c :: d :: R).Perm (c :: d :: a :: b :: R) :=
  (List.perm_append_comm (l₁ := [a, b]) (l₂ := [c, d])).append_right R
theorem perm12 {a b c : Ent} {R : List Ent} : (a :: b :: c :: R).Perm (b :: c :: a :: R) :=
  (List.perm_append_comm (l₁ := [a]) (l₂ := [b, c])).append_right R
theorem perm11 {a b : Ent} {R : List Ent} : (a :: b :: R).Perm (b :: a :: R) := .swap _ _ _
theorem bc_app (a b : Bytes) : bc (a ++ b) = bc a ++ bc b := by simp [bc]
theorem hsCell {w : World} {b off len cap : Nat} {l : List Hash} (h : HsAt w (.slice (some ⟨b, off, none⟩) len cap) l) (i : Nat) (hi : i < l.length) :
    ∀ j u, (hc (l.getD i zeroHash))[j]? = some u → w.cell? ((⟨b, off + i * 32, none⟩ : Addr).add j) = some u := by
  intro j u hu
  rw [add_mk]
  refine h.at i hi j u ?_
  rw [← hu, List.getD_eq_getElem?_getD, List.getElem?_eq_getElem hi]; rfl
theorem rep_at (m i : Nat) (h : i < m) (x : Value) : (List.replicate m x).toArray[i]! = x := by simp [h]
theorem rep_flat (k : Nat) : List.replicate (k * 32) (U8 0) = (List.replicate k zeroHash).flatMap hc := by
  induction k with
  | zero => rfl
  | succ k ih =>
    rw [Nat.succ_mul, Nat.add_comm, ← List.replicate_append_replicate, ih]
    rfl
theorem made_hash (k : Nat) : (madeCells (hc zeroHash).toArray (k * 32)).toList = (List.replicate k zeroHash).flatMap hc := by
  have e : hc zeroHash = List.replicate 32 (U8 0) := by rfl
  have h0 : ∀ i, (hc zeroHash).toArray[i % (hc zeroHash).toArray.size]! = U8 0 := by
    intro i
    have : i % 32 < 32 := Nat.mod_lt _ (by decide)
    rw [e]
    exact rep_at 32 _ this _
  rw [← rep_flat]
  unfold madeCells
  rw [Array.toList_map, Array.toList_range, List.map_congr_left (g := fun _ => U8 0) (fun i _ => h0 i)]
  apply List.ext_getElem <;> simp
theorem yq_eql_slnil {t t' e : TypeId} {x y : Operand} {a : Option Addr} {l c : Nat} (h : o.op = .binOp .eql t x y t') (hx : ev n ρ x = .slice a l c) (hy : ev n ρ y = .slice none 0 0) (ht : P.underlying t = some (.slice e)) : Yq P n w0 E o ρ L (.bool a.isNone) :=
  yq_val fun w _ => by
    have hg : (eqGuard .eql t x y (.slice a l c) (.slice none 0 0)).run P w = .ok () w := by unfold eqGuard; simp
    have he := run_equal_slice_nil (P := P) w t e a l c ht
    simp [execOp, h, hx, hy, hg, binOp, he]
theorem yq_eql_ptnil {t t' : TypeId} {x y : Operand} {a : Option Addr} (h : o.op = .binOp .eql t x y t') (hx : ev n ρ x = .pointer a) (hy : ev n ρ y = .pointer none) (ht : P.underlying t = some (.pointer (P.pointee t))) : Yq P n w0 E o ρ L (.bool a.isNone) :=
  yq_val fun w _ => by
    have hg : (eqGuard .eql t x y (.pointer a) (.pointer none)).run P w = .ok () w := by unfold eqGuard; simp
    have he := run_equal_pointer_nil (P := P) w t a ht
    simp [execOp, h, hx, hy, hg, binOp, he]
theorem Cl.toRow {L' : List Ent} {w : World} {b k size : Nat} {e : TypeId} {cs : List Value} (hc : Cl w0 E L w) (hp : Put (.blk b cs e (0, 0)) (.row (some b) k k e size cs) L L') (hl : cs.length = k * size) (hk : k ≤ maxLen) : Cl w0 E L' w := by
  have hb : w.heap[b]? = some (.cells cs.toArray e (0, 0)) := hc.own _ hp.mem
  refine hc.put (b := b) hp rfl rfl rfl rfl rfl rfl (fun _ _ => rfl) ?_
  exact ⟨hl, .inr ⟨b, k, cs.toArray, rfl, Nat.zero_le _, hb, Nat.le_refl _, hk, by simpa using hl, by rw [List.toList_toArray, ← hl, List.take_length]⟩⟩
def fillL (f : Nat → Hash) (n k : Nat) : List Hash := (List.range n).map fun i => if i < k then f i else zeroHash
theorem fillL_length (f : Nat → Hash) (n k : Nat) : (fillL f n k).length = n := by simp [fillL]
theorem fillL_zero (f : Nat → Hash) (n : Nat) : fillL f n 0 = List.replicate n zeroHash := by
  apply List.ext_getElem <;> simp [fillL]
theorem fillL_all (f : Nat → Hash) (n : Nat) : fillL f n n = (List.range n).map f := by
  unfold fillL
  refine List.map_congr_left fun i hi => ?_
  rw [if_pos (List.mem_range.1 hi)]
theorem fillL_set (f : Nat → Hash) (n k : Nat) (h : k < n) : (fillL f n k).set k (f k) = fillL f n (k + 1) := by
  apply List.ext_getElem
  · simp [fillL]
  · intro i h1 h2
    rw [List.getElem_set]
    simp only [fillL, List.getElem_map, List.getElem_range]
    by_cases hi : k = i
    · subst hi; simp
    · rw [if_neg hi]
      by_cases h3 : i < k
      · rw [if_pos h3, if_pos (by omega)]
      · rw [if_neg h3, if_neg (by omega)]
end
end Go.WL
