/- Stores into slices that we own, and calls that turn what we lend; no statement of the seat is proved here. -/
import Derived.Test.YtahdekllphehkaaDoorL10
import Derived.Laws.IdiomCopy
namespace Go.WL
open Go.Spec
set_option linter.unusedVariables false
set_option linter.unusedSimpArgs false

/-- Behind a call to which blocks of ours were lent, that left new things L1. -/
theorem Cl.callE {w0 w w' : World} {E E' : List Nat} {L L1 Lk : List Ent} (h : Cl w0 E L w) (h1 : Cl w E' L1 w') (hE : ∀ b ∈ E', ∃ x ∈ L, x.fp = some b) (hk : Lk.Sublist L) (hd : ∀ x ∈ Lk, ∀ b, x.fp = some b → b ∉ E') : Cl w0 E (L1 ++ Lk) w' := by
  have hlk := h.sub hk
  refine ⟨h1.os.trans h.os, h1.tape.trans h.tape, h1.output.trans h.output, Nat.le_trans h.size h1.size, fun k hk0 hkE => ?_, ?_, ?_, ?_⟩
  · have hk' : k ∉ E' := fun hm => by
      obtain ⟨x, hx, hxk⟩ := hE k hm
      rcases h.new x hx k hxk with hn | hn
      · omega
      · exact hkE hn
    exact (h1.old k (Nat.lt_of_lt_of_le hk0 h.size) hk').trans (h.old k hk0 hkE)
  · intro x hx
    rcases List.mem_append.1 hx with hx | hx
    · exact h1.own x hx
    · exact Ent.ok_of_same (hlk.own x hx) (fun b hb => h1.old b (Ent.ok_lt (hlk.own x hx) hb) (hd x hx b hb))
  · intro x hx b hb
    rcases List.mem_append.1 hx with hx | hx
    · rcases h1.new x hx b hb with hn | hn
      · exact .inl (Nat.le_trans h.size hn)
      · obtain ⟨y, hy, hyb⟩ := hE b hn
        exact h.new y hy b hyb
    · exact hlk.new x hx b hb
  · rw [List.filterMap_append, List.nodup_append]
    refine ⟨h1.nodup, hlk.nodup, ?_⟩
    intro b hb1 c hc hbc
    subst hbc
    obtain ⟨x, hx, hxb⟩ := List.mem_filterMap.1 hb1
    obtain ⟨y, hy, hyb⟩ := List.mem_filterMap.1 hc
    rcases h1.new x hx b hxb with hn | hn
    · have := Ent.ok_lt (hlk.own y hy) hyb
      omega
    · exact hd y hy b hyb hn

section
variable {P : Program} {n : Nat} {w0 : World} {E : List Nat} {o : Oper} {ρ : Nat → Value} {L : List Ent}

/-- A call to which blocks of ours are lent. -/
theorem OW.calle {ops : Array Oper} {rest : List Oper} {Q : Post} {c : Operand} {xs : List Operand} {ats : Array TypeId} {f : FuncId} {vs : List Value} {d : Tmp} {K : Value → List Ent → Prop} (E' : List Nat) (Lk : List Ent)
    (hw : Region.wanted o (yl n ops ρ) = true) (hd : o.dst = some d) (h : o.op = .call ⟨.value c, xs.toArray, ats⟩)
    (hc : ev n ρ c = .func (.func f) #[] #[]) (hx : Args n ρ xs vs) (he : ∀ args w, (callFunc f args).run P w = .ok (.enter f args) w)
    (hE : ∀ b ∈ E', ∃ x ∈ L, x.fp = some b) (hk' : Lk.Sublist L) (hdj : ∀ w, Cl w0 E L w → ∀ x ∈ Lk, ∀ b, x.fp = some b → b ∉ E')
    (hk : ∀ w, Cl w0 E L w → Calls P f vs.toArray w fun e w' => ∃ v L1, e = .returned v ∧ Cl w E' L1 w' ∧ K v L1)
    (hn : ∀ v L1, K v L1 → OW P n w0 E ops rest Q (upd ρ d v) (L1 ++ Lk)) : OW P n w0 E ops (o :: rest) Q ρ L := by
  have hr : ∀ w, (execOp (ev n ρ) o).run P w = .ok (.enter f vs.toArray) w := fun w => by
    have := run_call (P := P) (cap := []) h hc hx he w
    rwa [List.append_nil] at this
  exact OW.call hw hd hr fun w hw => (hk w hw).mono fun e w' ⟨v, L1, h1, h2, h3⟩ => ⟨v, L1 ++ Lk, h1, hw.callE h2 hE hk' (hdj w hw), hn v L1 h3⟩
/-- What a class lends: entries apart from those that are kept. -/
theorem lend_apart {A Lk : List Ent} {w : World} (h : Cl w0 E (A ++ Lk) w) {E' : List Nat} (hE : ∀ b ∈ E', ∃ x ∈ A, x.fp = some b) : ∀ x ∈ Lk, ∀ b, x.fp = some b → b ∉ E' := by
  intro x hx b hb hm
  obtain ⟨y, hy, hyb⟩ := hE b hm
  have := h.nodup
  rw [List.filterMap_append, List.nodup_append] at this
  exact this.2.2 b (List.mem_filterMap.2 ⟨y, hy, hyb⟩) b (List.mem_filterMap.2 ⟨x, hx, hb⟩) rfl

theorem frozen_out {w : World} {b : Nat} {cs : Array Value} {T : TypeId} {fz : Nat × Nat} (hb : w.heap[b]? = some (.cells cs T fz)) (j : Nat) (h : j < fz.1 ∨ fz.2 ≤ j) : w.frozen? ⟨b, j, none⟩ = false := by
  obtain ⟨lo, hi⟩ := fz
  simp only [World.frozen?, hb, Bool.and_eq_false_iff, decide_eq_false_iff_not]
  simp only at h
  rcases h with h | h
  · left; omega
  · right; omega
theorem run_storeVar_cells {T : TypeId} {g : Bool} {by_ b off : Nat} {vs : List Value} {v : Value} {w : World} (ti : tinfo P T = some (vs.length, g, by_)) (hv : v.cells = vs.toArray) (h1 : ∀ u ∈ vs, u.oneCell' = true)
    (hc : ∀ j, j < vs.length → (w.cell? ⟨b, off + j, none⟩).isSome = true) (hf : ∀ j, j < vs.length → w.frozen? ⟨b, off + j, none⟩ = false) : (storeVar T ⟨b, off, none⟩ v).run P w = .ok () (w.setCells b off vs) := by
  have hst := run_storeCells_cells (P := P) b off vs 0 w (by simpa using hc) (by simpa using hf) h1
  simp only [storeVar, Sem.run_bind, run_size ti, Result.andThen_ok, hv, List.size_toArray, ne_eq, not_true, if_false]
  simp only [Nat.add_zero] at hst
  simp only [Sem.run_pure, Result.andThen_ok, hst]

/-- A store into a row of ours. -/
theorem OW.storeR {ops : Array Oper} {rest : List Oper} {Q : Post} {a x : Operand} {v : Value} {b off cap k size : Nat} {xs xs' vs : List Value} {T e : TypeId} {L' : List Ent} {g : Bool} {by_ : Nat}
    (hw : Region.wanted o (yl n ops ρ) = true) (hd : o.dst = none) (h : o.op = .store T a x) (ha : ev n ρ a = .pointer (some ⟨b, off, none⟩)) (hx : ev n ρ x = v)
    (ti : tinfo P T = some (vs.length, g, by_)) (hv : v.cells = vs.toArray) (h1 : ∀ u ∈ vs, u.oneCell' = true)
    (hp : Put (.row (some b) cap k e size xs) (.row (some b) cap k e size xs') L L') (hcs : spl xs off vs = xs') (hf : off + vs.length ≤ xs.length)
    (hn : OW P n w0 E ops rest Q ρ L') : OW P n w0 E ops (o :: rest) Q ρ L := by
  subst hcs
  refine OW.m hw fun w hc => ?_
  have hb := hc.own _ hp.mem
  obtain ⟨hlen, hrow⟩ : w.ownsRow 0 e size (rowV (some b) k cap) k xs := hb
  rcases hrow with ⟨h', _⟩ | ⟨g', cap', cur, h', _, hg, hnc, hcm, hcz, htake⟩
  · simp [rowV] at h'
  · simp only [rowV, Option.map_some, Value.slice.injEq, Option.some.injEq, Addr.mk.injEq, and_true, true_and] at h'
    obtain ⟨rfl, rfl⟩ := h'
    have hk : k * size ≤ cur.size := by rw [hcz]; exact Nat.mul_le_mul_right _ hnc
    have hst : (storeVar T ⟨b, off, none⟩ v).run P w = .ok () (w.setCells b off vs) :=
      run_storeVar_cells ti hv h1 (fun j hj => by
        rw [cell_of_row w b (off + j) cur e (0, 0) hg, Array.getElem?_eq_getElem (by omega)]; rfl) (fun j hj => frozen_out hg _ (.inr (Nat.zero_le _)))
    have e1 : (execOp (ev n ρ) o).run P w = .ok .skip (w.setCells b off vs) := by
      have : (execOp (ev n ρ) o).run P w = ((storeVar T ⟨b, off, none⟩ v).run P w).andThen fun _ w' => .ok .skip w' := by
        simp [execOp, h, ha, hx, Instr.storeAt, Instr.sureAddr]
      rw [this, hst]; rfl
    obtain ⟨s1, s2, s3, s4⟩ := setCells_same b vs off w
    have hset : (w.setCells b off vs).heap[b]? = some (.cells (spl cur.toList off vs).toArray e (0, 0)) := setCells_row vs off w cur.toList (by simpa using hg) (by simp; omega)
    refine ⟨undef, L', w.setCells b off vs, .inr ⟨e1, rfl⟩, hc.put hp rfl rfl s1 s2 s3 s4 (fun k' hk' => setCells_far vs off k' hk') ?_, by rw [hd]; exact hn⟩
    refine ⟨by rw [spl_length hf]; exact hlen, .inr ⟨b, cap, _, rfl, Nat.zero_le _, hset, hnc, hcm, by simp [spl_length (show off + vs.length ≤ cur.toList.length by simp; omega), hcz], ?_⟩⟩
    subst htake
    have hl2 : off + vs.length ≤ k * size := by simp at hf; omega
    unfold spl
    rw [List.toList_toArray, List.append_assoc, List.take_append, List.take_append, List.take_take, List.length_take, List.drop_take]
    rw [Nat.min_eq_right (show off ≤ k * size by omega), Nat.min_eq_left (show off ≤ cur.toList.length by simp; omega), List.take_of_length_le (show vs.length ≤ k * size - off by omega), List.take_take, Nat.min_eq_left (show off ≤ k * size by omega), List.append_assoc]
    congr 3
    omega
/-- A store into a block of ours, whatever is frozen of it elsewhere. -/
theorem OW.storeF {ops : Array Oper} {rest : List Oper} {Q : Post} {a x : Operand} {v : Value} {b off : Nat} {cs cs' vs : List Value} {T e : TypeId} {fz : Nat × Nat} {L' : List Ent} {g : Bool} {by_ : Nat}
    (hw : Region.wanted o (yl n ops ρ) = true) (hd : o.dst = none) (h : o.op = .store T a x) (ha : ev n ρ a = .pointer (some ⟨b, off, none⟩)) (hx : ev n ρ x = v)
    (ti : tinfo P T = some (vs.length, g, by_)) (hv : v.cells = vs.toArray) (h1 : ∀ u ∈ vs, u.oneCell' = true)
    (hp : Put (.blk b cs e fz) (.blk b cs' e fz) L L') (hcs : spl cs off vs = cs') (hf : off + vs.length ≤ cs.length) (hz : off + vs.length ≤ fz.1 ∨ fz.2 ≤ off)
    (hn : OW P n w0 E ops rest Q ρ L') : OW P n w0 E ops (o :: rest) Q ρ L := by
  subst hcs
  refine OW.m hw fun w hc => ?_
  have hg : w.heap[b]? = some (.cells cs.toArray e fz) := hc.own _ hp.mem
  have hst : (storeVar T ⟨b, off, none⟩ v).run P w = .ok () (w.setCells b off vs) :=
    run_storeVar_cells ti hv h1 (fun j hj => by
      rw [cell_of_row w b (off + j) _ e fz hg, Array.getElem?_eq_getElem (by simp; omega)]; rfl) (fun j hj => frozen_out hg _ (by omega))
  have e1 : (execOp (ev n ρ) o).run P w = .ok .skip (w.setCells b off vs) := by
    have : (execOp (ev n ρ) o).run P w = ((storeVar T ⟨b, off, none⟩ v).run P w).andThen fun _ w' => .ok .skip w' := by
      simp [execOp, h, ha, hx, Instr.storeAt, Instr.sureAddr]
    rw [this, hst]; rfl
  obtain ⟨s1, s2, s3, s4⟩ := setCells_same b vs off w
  exact ⟨undef, L', w.setCells b off vs, .inr ⟨e1, rfl⟩, hc.put hp rfl rfl s1 s2 s3 s4 (fun k' hk' => setCells_far vs off k' hk') (setCells_row vs off w cs hg hf), by rw [hd]; exact hn⟩
/-- What a slice of ours becomes by a store. -/
def Ent.st (off : Nat) (vs : List Value) : Ent → Ent
  | .blk b cs T fz => .blk b (spl cs off vs) T fz
  | .row a cap n T size xs => .row a cap n T size (spl xs off vs)
theorem spl_take {cs vs : List Value} {off m : Nat} (h : off + vs.length ≤ m) (hm : m ≤ cs.length) : (spl cs off vs).take m = spl (cs.take m) off vs := by
  unfold spl
  rw [List.append_assoc, List.take_append, List.take_append, List.take_take, List.length_take, List.drop_take]
  rw [Nat.min_eq_right (show off ≤ m by omega), Nat.min_eq_left (show off ≤ cs.length by omega), List.take_of_length_le (show vs.length ≤ m - off by omega), List.take_take, Nat.min_eq_left (show off ≤ m by omega), List.append_assoc]
  congr 3
  omega
theorem OW.storeSl {ops : Array Oper} {rest : List Oper} {Q : Post} {a x : Operand} {v sv : Value} {b off cap k size : Nat} {xs xs' vs : List Value} {T e : TypeId} {y : Ent} {L' : List Ent} {g : Bool} {by_ : Nat}
    (hw : Region.wanted o (yl n ops ρ) = true) (hd : o.dst = none) (h : o.op = .store T a x) (ha : ev n ρ a = .pointer (some ⟨b, off, none⟩)) (hx : ev n ρ x = v)
    (ti : tinfo P T = some (vs.length, g, by_)) (hv : v.cells = vs.toArray) (h1 : ∀ u ∈ vs, u.oneCell' = true)
    (hsl : Sl e size (.slice (some ⟨b, 0, none⟩) k cap) k xs y) (hxs : xs.length = k * size) (hp : Put y (y.st off vs) L L') (hcs : spl xs off vs = xs') (hf : off + vs.length ≤ xs.length)
    (hn : Sl e size (.slice (some ⟨b, 0, none⟩) k cap) k xs' (y.st off vs) → OW P n w0 E ops rest Q ρ L') : OW P n w0 E ops (o :: rest) Q ρ L := by
  subst hcs
  generalize hsv : Value.slice (some ⟨b, 0, none⟩) k cap = sv' at hsl hn
  cases hsl with
  | @row a' k' cap' xs' =>
    cases a' with
    | none => simp [rowV] at hsv
    | some g' =>
      simp only [rowV, Option.map_some, Value.slice.injEq, Option.some.injEq, Addr.mk.injEq, and_true, true_and] at hsv
      obtain ⟨rfl, rfl⟩ := hsv
      exact OW.storeR hw hd h ha hx ti hv h1 hp rfl hf (hn .row)
  | @fz b' k' cap' cs xs' hl hkc hm hx' =>
    simp only [Value.slice.injEq, Option.some.injEq, Addr.mk.injEq, and_true, true_and] at hsv
    obtain ⟨rfl, rfl⟩ := hsv
    have hkl : k * size ≤ cs.length := by rw [hl]; exact Nat.mul_le_mul_right _ hkc
    have hfl : off + vs.length ≤ cs.length := by omega
    refine OW.storeF hw hd h ha hx ti hv h1 hp rfl hfl (.inl (by show _ ≤ cap * size; omega)) (hn (.fz (by rw [spl_length hfl]; exact hl) hkc hm ?_))
    rw [spl_take (by omega) hkl, hx']
end
end Go.WL
