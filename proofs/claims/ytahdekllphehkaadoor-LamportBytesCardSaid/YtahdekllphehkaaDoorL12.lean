/- Tests that may not be reached, and truth values by name; no statement of the seat is proved here. -/
import Derived.Test.YtahdekllphehkaaDoorL11
namespace Go.WL
open Go.Spec
set_option linter.unusedVariables false
set_option linter.unusedSimpArgs false
section
variable {P : Program} {n : Nat} {w0 : World} {E : List Nat} {ops : Array Oper}

/-- The same frame but for some slots. -/
def Any : List Nat → (Nat → Value) → (Nat → Value) → Prop
  | [], ρ, ρ' => ρ' = ρ
  | t :: ts, ρ, ρ' => ∃ x, Any ts (upd ρ t x) ρ'
theorem any_n {ρ : Nat → Value} : Any [] ρ ρ := rfl
theorem any_c {t : Nat} {ts : List Nat} {ρ ρ' : Nat → Value} {x : Value} (h : Any ts (upd ρ t x) ρ') : Any (t :: ts) ρ ρ' := ⟨x, h⟩

theorem wpList_of_quiet {C : World → Prop} {M : Act → Prop} {Q : Exit → Act → World → Prop} {l2 : List Oper} : ∀ (l1 : List Oper) (a : Act) (w : World), wpQuiet P ops C M l1 a → C w → (∀ a' w', M a' → C w' → wpList P ops Q l2 a' w') → wpList P ops Q (l1 ++ l2) a w
  | [], a, w, h, hC, hn => hn a w h hC
  | o :: r, a, w, h, hC, hn => by
    unfold wpQuiet at h
    rw [List.cons_append]
    refine wpList_step fun K hK => ?_
    split
    · rename_i hw
      rw [if_pos hw] at h
      obtain ⟨v, hv, hx⟩ := h
      have h1 : Oper.quietUpon P C w v ((execOp a.eval o).run P w) := hv w hC
      have hk : ∀ w', C w' → K (a.put o.dst v) w' := fun w' hC' => hK _ _ (wpList_of_quiet r _ w' hx hC' hn)
      unfold Oper.wp
      generalize (execOp a.eval o).run P w = res at h1 ⊢
      cases res with
      | ok x w' =>
        cases x <;> simp only [Oper.quietUpon] at h1 <;> simp only [Oper.upon]
        case value u => obtain ⟨rfl, rfl⟩ := h1; exact hk _ hC
        case skip => obtain ⟨rfl, rfl⟩ := h1; exact hk _ hC
        case enter f args =>
          obtain ⟨rfl, hcall⟩ := h1
          exact hcall.mono fun e w'' ⟨he, hc'⟩ => by subst he; exact hk _ hc'
      | halt x w' => simp only [Oper.quietUpon] at h1
    · rename_i hw
      rw [if_neg hw] at h
      exact hK _ _ (wpList_of_quiet r _ w h hC hn)
theorem wpQuiet_append {C : World → Prop} {M Q : Act → Prop} {l2 : List Oper} (hn : ∀ a', M a' → wpQuiet P ops C Q l2 a') : ∀ (l1 : List Oper) (a : Act), wpQuiet P ops C M l1 a → wpQuiet P ops C Q (l1 ++ l2) a
  | [], a, h => hn a h
  | o :: r, a, h => by
    rw [List.cons_append]
    unfold wpQuiet at h ⊢
    split
    · rename_i hw
      rw [if_pos hw] at h
      exact Oper.quiet_mono (wpQuiet_append hn r) h
    · rename_i hw
      rw [if_neg hw] at h
      exact wpQuiet_append hn r _ h

theorem OW.quietly {l : List Oper} {Q : Post} {ρ : Nat → Value} {L : List Ent} (k : Nat) {M : (Nat → Value) → Prop} (hs : QW P n w0 E ops (l.take k) M L ρ) (hn : ∀ ρ', M ρ' → OW P n w0 E ops (l.drop k) Q ρ' L) : OW P n w0 E ops l Q ρ L := by
  intro a w hf hc
  have := wpList_of_quiet (P := P) (ops := ops) (Q := up n w0 E Q) (l2 := l.drop k) _ a w (hs a hf) hc (fun a' w' ⟨ρ', h1, h2⟩ hc' => hn ρ' h2 a' w' h1 hc')
  rwa [List.take_append_drop] at this
theorem QW.quietly {l : List Oper} {K : (Nat → Value) → Prop} {ρ : Nat → Value} {L : List Ent} (k : Nat) {M : (Nat → Value) → Prop} (hs : QW P n w0 E ops (l.take k) M L ρ) (hn : ∀ ρ', M ρ' → QW P n w0 E ops (l.drop k) K L ρ') : QW P n w0 E ops l K L ρ := by
  intro a hf
  have := wpQuiet_append (P := P) (ops := ops) (C := Cl w0 E L) (M := fun a' => ∃ ρ', FR n ρ' a' ∧ M ρ') (Q := fun a' => ∃ ρ', FR n ρ' a' ∧ K ρ') (l2 := l.drop k) (fun a' ⟨ρ', h1, h2⟩ => hn ρ' h2 a' h1) _ a (hs a hf)
  rwa [List.take_append_drop] at this

/-- What a test that may not be reached leaves. -/
def SegM (ts : List Nat) (d : Nat) (R : Prop) (ρ ρ' : Nat → Value) : Prop := ∃ ρ1 b, Any ts ρ ρ1 ∧ ρ' = upd ρ1 d (.bool b) ∧ (b = true ↔ R)
theorem SegM.mk {ts : List Nat} {d : Nat} {R : Prop} {ρ ρ1 : Nat → Value} {b : Bool} (hA : Any ts ρ ρ1) (hb : b = true ↔ R) : SegM ts d R ρ (upd ρ1 d (.bool b)) := ⟨ρ1, b, hA, rfl, hb⟩
theorem OW.seg {l : List Oper} {Q : Post} {ρ : Nat → Value} {L : List Ent} {R : Prop} (k : Nat) (ts : List Nat) (d : Nat) (hs : QW P n w0 E ops (l.take k) (SegM ts d R ρ) L ρ)
    (hn : ∀ ρ1 b, Any ts ρ ρ1 → (b = true ↔ R) → OW P n w0 E ops (l.drop k) Q (upd ρ1 d (.bool b)) L) : OW P n w0 E ops l Q ρ L :=
  OW.quietly k hs fun ρ' ⟨ρ1, b, hA, he, hb⟩ => he ▸ hn ρ1 b hA hb
theorem QW.seg {l : List Oper} {K : (Nat → Value) → Prop} {ρ : Nat → Value} {L : List Ent} {R : Prop} (k : Nat) (ts : List Nat) (d : Nat) (hs : QW P n w0 E ops (l.take k) (SegM ts d R ρ) L ρ)
    (hn : ∀ ρ1 b, Any ts ρ ρ1 → (b = true ↔ R) → QW P n w0 E ops (l.drop k) K L (upd ρ1 d (.bool b))) : QW P n w0 E ops l K L ρ :=
  QW.quietly k hs fun ρ' ⟨ρ1, b, hA, he, hb⟩ => he ▸ hn ρ1 b hA hb
theorem OW.segOr {l : List Oper} {Q : Post} {ρ : Nat → Value} {L : List Ent} (k : Nat) (ts : List Nat) (d : Nat) {b1 : Bool} {P1 P2 : Prop} (h1 : b1 = true ↔ P1) (hrun : b1 = false → QW P n w0 E ops (l.take k) (SegM ts d (P1 ∨ P2) ρ) L ρ)
    (hskip : b1 = true → QW P n w0 E ops (l.take k) (SegM ts d (P1 ∨ P2) ρ) L ρ) (hn : ∀ ρ1 b, Any ts ρ ρ1 → (b = true ↔ (P1 ∨ P2)) → OW P n w0 E ops (l.drop k) Q (upd ρ1 d (.bool b)) L) : OW P n w0 E ops l Q ρ L :=
  OW.seg k ts d (by cases hb : b1; exact hrun hb; exact hskip hb) hn
theorem QW.segOr {l : List Oper} {K : (Nat → Value) → Prop} {ρ : Nat → Value} {L : List Ent} (k : Nat) (ts : List Nat) (d : Nat) {b1 : Bool} {P1 P2 : Prop} (h1 : b1 = true ↔ P1) (hrun : b1 = false → QW P n w0 E ops (l.take k) (SegM ts d (P1 ∨ P2) ρ) L ρ)
    (hskip : b1 = true → QW P n w0 E ops (l.take k) (SegM ts d (P1 ∨ P2) ρ) L ρ) (hn : ∀ ρ1 b, Any ts ρ ρ1 → (b = true ↔ (P1 ∨ P2)) → QW P n w0 E ops (l.drop k) K L (upd ρ1 d (.bool b))) : QW P n w0 E ops l K L ρ :=
  QW.seg k ts d (by cases hb : b1; exact hrun hb; exact hskip hb) hn
theorem OW.segAnd {l : List Oper} {Q : Post} {ρ : Nat → Value} {L : List Ent} (k : Nat) (ts : List Nat) (d : Nat) {b1 : Bool} {P1 P2 : Prop} (h1 : b1 = true ↔ P1) (hrun : b1 = true → QW P n w0 E ops (l.take k) (SegM ts d (P1 ∧ P2) ρ) L ρ)
    (hskip : b1 = false → QW P n w0 E ops (l.take k) (SegM ts d (P1 ∧ P2) ρ) L ρ) (hn : ∀ ρ1 b, Any ts ρ ρ1 → (b = true ↔ (P1 ∧ P2)) → OW P n w0 E ops (l.drop k) Q (upd ρ1 d (.bool b)) L) : OW P n w0 E ops l Q ρ L :=
  OW.seg k ts d (by cases hb : b1; exact hskip hb; exact hrun hb) hn
theorem QW.segAnd {l : List Oper} {K : (Nat → Value) → Prop} {ρ : Nat → Value} {L : List Ent} (k : Nat) (ts : List Nat) (d : Nat) {b1 : Bool} {P1 P2 : Prop} (h1 : b1 = true ↔ P1) (hrun : b1 = true → QW P n w0 E ops (l.take k) (SegM ts d (P1 ∧ P2) ρ) L ρ)
    (hskip : b1 = false → QW P n w0 E ops (l.take k) (SegM ts d (P1 ∧ P2) ρ) L ρ) (hn : ∀ ρ1 b, Any ts ρ ρ1 → (b = true ↔ (P1 ∧ P2)) → QW P n w0 E ops (l.drop k) K L (upd ρ1 d (.bool b))) : QW P n w0 E ops l K L ρ :=
  QW.seg k ts d (by cases hb : b1; exact hskip hb; exact hrun hb) hn
theorem or_run {P1 P2 : Prop} {b1 b : Bool} (h1 : b1 = true ↔ P1) (he : b1 = false) (h2 : b = true ↔ P2) : b = true ↔ (P1 ∨ P2) := by
  subst he
  exact ⟨fun h => .inr (h2.1 h), fun h => h.elim (fun p => absurd (h1.2 p) (by decide)) h2.2⟩
theorem or_skip {P1 P2 : Prop} {b1 : Bool} (h1 : b1 = true ↔ P1) (he : b1 = true) : true = true ↔ (P1 ∨ P2) := ⟨fun h => .inl (h1.1 he), fun _ => rfl⟩
theorem and_run {P1 P2 : Prop} {b1 b : Bool} (h1 : b1 = true ↔ P1) (he : b1 = true) (h2 : b = true ↔ P2) : b = true ↔ (P1 ∧ P2) := ⟨fun h => ⟨h1.1 he, h2.1 h⟩, fun h => h2.2 h.2⟩
theorem and_skip {P1 P2 : Prop} {b1 : Bool} (h1 : b1 = true ↔ P1) (he : b1 = false) : false = true ↔ (P1 ∧ P2) := by
  constructor
  · intro h; cases h
  · intro h; rw [h1.2 h.1] at he; cases he
theorem not_iff' {p : Prop} {b : Bool} (h : b = true ↔ p) : (!b) = true ↔ ¬ p := by cases b <;> simp_all

/-- A test, its value by a name. -/
theorem OW.qb {o : Oper} {rest : List Oper} {Q : Post} {ρ : Nat → Value} {L : List Ent} {p : Prop} [Decidable p] {d : Tmp} (hw : Region.wanted o (yl n ops ρ) = true) (hd : o.dst = some d)
    (hy : Yq P n w0 E o ρ L (.bool (decide p))) (h : ∀ b : Bool, (b = true ↔ p) → OW P n w0 E ops rest Q (upd ρ d (.bool b)) L) : OW P n w0 E ops (o :: rest) Q ρ L :=
  OW.q hw hd hy (h _ (by simp))
theorem QW.qb {o : Oper} {rest : List Oper} {K : (Nat → Value) → Prop} {ρ : Nat → Value} {L : List Ent} {p : Prop} [Decidable p] {d : Tmp} (hw : Region.wanted o (yl n ops ρ) = true) (hd : o.dst = some d)
    (hy : Yq P n w0 E o ρ L (.bool (decide p))) (h : ∀ b : Bool, (b = true ↔ p) → QW P n w0 E ops rest K L (upd ρ d (.bool b))) : QW P n w0 E ops (o :: rest) K L ρ :=
  QW.q hw hd hy (h _ (by simp))
/-- A negation, its value by a name. -/
theorem OW.qn {o : Oper} {rest : List Oper} {Q : Post} {ρ : Nat → Value} {L : List Ent} {p : Prop} {b0 : Bool} {d : Tmp} (hw : Region.wanted o (yl n ops ρ) = true) (hd : o.dst = some d)
    (hy : Yq P n w0 E o ρ L (.bool (!b0))) (hb : b0 = true ↔ p) (h : ∀ b : Bool, (b = true ↔ ¬ p) → OW P n w0 E ops rest Q (upd ρ d (.bool b)) L) : OW P n w0 E ops (o :: rest) Q ρ L :=
  OW.q hw hd hy (h _ (not_iff' hb))
theorem QW.qn {o : Oper} {rest : List Oper} {K : (Nat → Value) → Prop} {ρ : Nat → Value} {L : List Ent} {p : Prop} {b0 : Bool} {d : Tmp} (hw : Region.wanted o (yl n ops ρ) = true) (hd : o.dst = some d)
    (hy : Yq P n w0 E o ρ L (.bool (!b0))) (hb : b0 = true ↔ p) (h : ∀ b : Bool, (b = true ↔ ¬ p) → QW P n w0 E ops rest K L (upd ρ d (.bool b))) : QW P n w0 E ops (o :: rest) K L ρ :=
  QW.q hw hd hy (h _ (not_iff' hb))
theorem CW.condq {c : Operand} {x y : Code} {p : Prop} {b : Bool} {Q : Post} {ρ : Nat → Value} {L : List Ent} (hc : ev n ρ c = .bool b) (hb : b = true ↔ p) (ht : p → CW P n w0 E x Q ρ L) (hf : ¬ p → CW P n w0 E y Q ρ L) : CW P n w0 E (.cond c x y) Q ρ L :=
  CW.cond hc (fun h => ht (hb.1 h)) (fun h => hf (fun q => by rw [hb.2 q] at h; cases h))
def noGotoQ (Q : Post) : Post
  | .goto _, _, _ => False
  | e, ρ, L => Q e ρ L
theorem CW.scope {c : Code} {Q : Post} {ρ : Nat → Value} {L : List Ent} (h : CW P n w0 E c (noGotoQ Q) ρ L) : CW P n w0 E (.scope c) Q ρ L := by
  intro a w hf hc
  refine wp_scope_straight (Code.wp_mono (fun e a' w' hu => ?_) (h a w hf hc))
  obtain ⟨ρ', L', h1, h2, h3⟩ := hu
  cases e with
  | goto l => exact h3.elim
  | _ => exact ⟨ρ', L', h1, h2, h3⟩
theorem noGoto_ret {Q : Post} {ρ : Nat → Value} {L : List Ent} (h : Q .ret ρ L) : noGotoQ Q .ret ρ L := h
theorem noGoto_exit {id : Nat} {Q : Post} {ρ : Nat → Value} {L : List Ent} (h : Q (.exit id) ρ L) : noGotoQ Q (.exit id) ρ L := h
/-- A class whose entries lie in what was there. -/
theorem Cl.lent {w : World} {E : List Nat} {L : List Ent} (h1 : ∀ x ∈ L, x.ok w) (h2 : ∀ x ∈ L, ∀ b, x.fp = some b → b ∈ E) (h3 : (L.filterMap Ent.fp).Nodup) : Cl w E L w :=
  ⟨rfl, rfl, rfl, Nat.le_refl _, fun _ _ _ => rfl, h1, fun x hx b hb => .inr (h2 x hx b hb), h3⟩
theorem Cl.lent1 {w : World} {x : Ent} (h : x.ok w) : Cl w x.fp.toList [x] w := by
  refine Cl.lent (fun y hy => ?_) (fun y hy b hb => ?_) ?_
  · rw [List.mem_singleton] at hy; subst hy; exact h
  · rw [List.mem_singleton] at hy; subst hy; rw [hb]; simp
  · cases hf : x.fp <;> simp [hf]
/-- Hashes in a row, one of them another one. -/
theorem spl_flat {l : List Hash} {k : Nat} (h : k < l.length) (x : Hash) : spl (l.flatMap hc) (k * 32) (hc x) = (l.set k x).flatMap hc := by
  unfold spl
  rw [hc_length, Nat.mul_comm, flat_take, show 32 * k + 32 = 32 * (k + 1) by omega, flat_drop, List.set_eq_take_append_cons_drop, if_pos h, List.flatMap_append, List.flatMap_cons, List.append_assoc]
end
end Go.WL
