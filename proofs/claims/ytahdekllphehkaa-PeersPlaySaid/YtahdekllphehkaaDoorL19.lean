/- Calls of function values to which blocks are lent; no statement of the seat is proved here. -/
import Derived.Test.YtahdekllphehkaaDoorL18
namespace Go.WL
open Go.Spec
set_option linter.unusedVariables false
set_option linter.unusedSimpArgs false
section
variable {P : Program} {n : Nat} {w0 : World} {E : List Nat} {o : Oper} {ρ : Nat → Value} {L : List Ent}
/-- A call of a function value, with what it has caught, to which blocks of ours are lent. -/
theorem OW.calleC {ops : Array Oper} {rest : List Oper} {Q : Post} {c : Operand} {xs : List Operand} {ats : Array TypeId} {f : FuncId} {cap vs : List Value} {d : Tmp} {K : Value → List Ent → Prop} (E' : List Nat) (Lk : List Ent)
    (hw : Region.wanted o (yl n ops ρ) = true) (hd : o.dst = some d) (h : o.op = .call ⟨.value c, xs.toArray, ats⟩)
    (hc : ev n ρ c = .func (.func f) #[] cap.toArray) (hx : Args n ρ xs vs) (he : ∀ args w, (callFunc f args).run P w = .ok (.enter f args) w)
    (hE : ∀ b ∈ E', ∃ x ∈ L, x.fp = some b) (hk' : Lk.Sublist L) (hdj : ∀ w, Cl w0 E L w → ∀ x ∈ Lk, ∀ b, x.fp = some b → b ∉ E')
    (hk : ∀ w, Cl w0 E L w → Calls P f (vs ++ cap).toArray w fun e w' => ∃ v L1, e = .returned v ∧ Cl w E' L1 w' ∧ K v L1)
    (hn : ∀ v L1, K v L1 → OW P n w0 E ops rest Q (upd ρ d v) (L1 ++ Lk)) : OW P n w0 E ops (o :: rest) Q ρ L := by
  have hr : ∀ w, (execOp (ev n ρ) o).run P w = .ok (.enter f (vs ++ cap).toArray) w := fun w => run_call (P := P) (cap := cap) h hc hx he w
  exact OW.call hw hd hr fun w hw => (hk w hw).mono fun e w' ⟨v, L1, h1, h2, h3⟩ => ⟨v, L1 ++ Lk, h1, hw.callE h2 hE hk' (hdj w hw), hn v L1 h3⟩
/-- So, our first entry. -/
theorem OW.callAC {ops : Array Oper} {rest : List Oper} {Q : Post} {c : Operand} {xs : List Operand} {ats : Array TypeId} {f : FuncId} {cap vs : List Value} {d : Tmp} {x : Ent} {Lk : List Ent} {K : Value → List Ent → Prop}
    (hw : Region.wanted o (yl n ops ρ) = true) (hd : o.dst = some d) (h : o.op = .call ⟨.value c, xs.toArray, ats⟩)
    (hc : ev n ρ c = .func (.func f) #[] cap.toArray) (hx : Args n ρ xs vs) (he : ∀ args w, (callFunc f args).run P w = .ok (.enter f args) w)
    (hk : ∀ w, Cl w0 E (x :: Lk) w → Calls P f (vs ++ cap).toArray w fun e w' => ∃ v L1, e = .returned v ∧ Cl w x.fp.toList L1 w' ∧ K v L1)
    (hn : ∀ v L1, K v L1 → OW P n w0 E ops rest Q (upd ρ d v) (L1 ++ Lk)) : OW P n w0 E ops (o :: rest) Q ρ (x :: Lk) := by
  have hE : ∀ b ∈ x.fp.toList, ∃ z ∈ [x], z.fp = some b := fun b hb => ⟨x, by simp, by simpa using hb⟩
  refine OW.calleC x.fp.toList Lk hw hd h hc hx he (fun b hb => ?_) (List.sublist_cons_self _ _) (fun w hw => lend_apart (A := [x]) hw hE) hk hn
  obtain ⟨z, hz, hzb⟩ := hE b hb
  exact ⟨z, by simp at hz ⊢; exact .inl hz, hzb⟩
/-- So, our two first entries. -/
theorem OW.callBC {ops : Array Oper} {rest : List Oper} {Q : Post} {c : Operand} {xs : List Operand} {ats : Array TypeId} {f : FuncId} {cap vs : List Value} {d : Tmp} {x y : Ent} {Lk : List Ent} {K : Value → List Ent → Prop}
    (hw : Region.wanted o (yl n ops ρ) = true) (hd : o.dst = some d) (h : o.op = .call ⟨.value c, xs.toArray, ats⟩)
    (hc : ev n ρ c = .func (.func f) #[] cap.toArray) (hx : Args n ρ xs vs) (he : ∀ args w, (callFunc f args).run P w = .ok (.enter f args) w)
    (hk : ∀ w, Cl w0 E (x :: y :: Lk) w → Calls P f (vs ++ cap).toArray w fun e w' => ∃ v L1, e = .returned v ∧ Cl w (x.fp.toList ++ y.fp.toList) L1 w' ∧ K v L1)
    (hn : ∀ v L1, K v L1 → OW P n w0 E ops rest Q (upd ρ d v) (L1 ++ Lk)) : OW P n w0 E ops (o :: rest) Q ρ (x :: y :: Lk) := by
  have hE : ∀ b ∈ x.fp.toList ++ y.fp.toList, ∃ z ∈ [x, y], z.fp = some b := by
    intro b hb
    rcases List.mem_append.1 hb with hb | hb
    · exact ⟨x, by simp, by simpa using hb⟩
    · exact ⟨y, by simp, by simpa using hb⟩
  refine OW.calleC (x.fp.toList ++ y.fp.toList) Lk hw hd h hc hx he (fun b hb => ?_) ((List.sublist_cons_self _ _).trans (List.sublist_cons_self _ _)) (fun w hw => lend_apart (A := [x, y]) hw hE) hk hn
  obtain ⟨z, hz, hzb⟩ := hE b hb
  exact ⟨z, by simp at hz ⊢; rcases hz with rfl | rfl <;> simp, hzb⟩
end
end Go.WL
