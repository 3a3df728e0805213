/- Rules for code and for regions over frames as functions and memory as a list; no statement of the seat is proved here. -/
import Derived.Test.YtahdekllphehkaaDoorL0
namespace Go.WL
set_option linter.unusedVariables false
set_option linter.unusedSimpArgs false

abbrev Post := Exit → (Nat → Value) → List Ent → Prop

section
variable {P : Program} {n : Nat} {w0 : World} {E : List Nat}

def up (n : Nat) (w0 : World) (E : List Nat) (Q : Post) : Exit → Act → World → Prop := fun e a w => ∃ ρ L, FR n ρ a ∧ Cl w0 E L w ∧ Q e ρ L

def CW (P : Program) (n : Nat) (w0 : World) (E : List Nat) (c : Code) (Q : Post) (ρ : Nat → Value) (L : List Ent) : Prop :=
  ∀ a w, FR n ρ a → Cl w0 E L w → c.wp P (up n w0 E Q) a w

def thenQ (N : (Nat → Value) → List Ent → Prop) (Q : Post) : Post
  | .normal, ρ, L => N ρ L
  | e, ρ, L => Q e ρ L

def blockQ (id : Nat) (Q : Post) : Post
  | .exit id', ρ, L => if id' = id then Q .normal ρ L else Q (.exit id') ρ L
  | e, ρ, L => Q e ρ L

theorem up_then {N : (Nat → Value) → List Ent → Prop} {Q : Post} {M : Act → World → Prop} (h : ∀ ρ L a w, FR n ρ a → Cl w0 E L w → N ρ L → M a w) (e : Exit) (a : Act) (w : World)
    (hu : up n w0 E (thenQ N Q) e a w) : Exit.then M (up n w0 E Q) e a w := by
  obtain ⟨ρ, L, hf, hc, hq⟩ := hu
  cases e with
  | normal => exact h ρ L a w hf hc hq
  | _ => exact ⟨ρ, L, hf, hc, hq⟩

theorem CW.mono {c : Code} {Q Q' : Post} {ρ : Nat → Value} {L : List Ent} (hq : ∀ e ρ L, Q e ρ L → Q' e ρ L) (h : CW P n w0 E c Q ρ L) : CW P n w0 E c Q' ρ L :=
  fun a w hf hc => Code.wp_mono (fun e a w ⟨ρ, L, h1, h2, h3⟩ => ⟨ρ, L, h1, h2, hq e ρ L h3⟩) (h a w hf hc)

theorem CW.seq {x y : Code} {Q : Post} {ρ : Nat → Value} {L : List Ent} (h : CW P n w0 E x (thenQ (fun ρ L => CW P n w0 E y Q ρ L) Q) ρ L) : CW P n w0 E (.seq x y) Q ρ L :=
  fun a w hf hc => wp_seq (Code.wp_mono (up_then fun ρ L a w hf hc hn => hn a w hf hc) (h a w hf hc))

/-- What follows behind a variable. -/
theorem CW.seq_k {x y : Code} {Q : Post} {ρ : Nat → Value} {L : List Ent}
    (h : ∀ K : (Nat → Value) → List Ent → Prop, (∀ ρ L, CW P n w0 E y Q ρ L → K ρ L) → CW P n w0 E x (thenQ K Q) ρ L) : CW P n w0 E (.seq x y) Q ρ L :=
  CW.seq (h _ fun _ _ h => h)

/-- A piece of code of which one fact is enough for what follows. -/
theorem CW.cut {x y : Code} {Q : Post} {ρ : Nat → Value} {L : List Ent} (M : (Nat → Value) → List Ent → Prop) (h : CW P n w0 E x (thenQ M Q) ρ L)
    (h2 : ∀ ρ L, M ρ L → CW P n w0 E y Q ρ L) : CW P n w0 E (.seq x y) Q ρ L :=
  CW.seq (h.mono fun e ρ L hq => by cases e <;> first | exact h2 _ _ hq | exact hq)

theorem CW.skip {Q : Post} {ρ : Nat → Value} {L : List Ent} (h : Q .normal ρ L) : CW P n w0 E .skip Q ρ L :=
  fun a w hf hc => wp_skip ⟨ρ, L, hf, hc, h⟩
theorem CW.label {l : Nat} {Q : Post} {ρ : Nat → Value} {L : List Ent} (h : Q .normal ρ L) : CW P n w0 E (.label l) Q ρ L :=
  fun a w hf hc => wp_label ⟨ρ, L, hf, hc, h⟩
theorem CW.ret {Q : Post} {ρ : Nat → Value} {L : List Ent} (h : Q .ret ρ L) : CW P n w0 E .ret Q ρ L :=
  fun a w hf hc => wp_ret ⟨ρ, L, hf, hc, h⟩
theorem CW.exit {id : Nat} {Q : Post} {ρ : Nat → Value} {L : List Ent} (h : Q (.exit id) ρ L) : CW P n w0 E (.exit id) Q ρ L :=
  fun a w hf hc => wp_exit ⟨ρ, L, hf, hc, h⟩

theorem CW.block {id : Nat} {c : Code} {Q : Post} {ρ : Nat → Value} {L : List Ent} (h : CW P n w0 E c (blockQ id Q) ρ L) : CW P n w0 E (.block id c) Q ρ L :=
  fun a w hf hc => wp_block (Code.wp_mono (fun e a w ⟨ρ, L, h1, h2, h3⟩ => by
    cases e with
    | exit id' =>
      by_cases hid : id' = id
      · simp only [blockQ, hid, if_true] at h3
        simp only [Exit.inBlock, hid, if_true]
        exact ⟨ρ, L, h1, h2, h3⟩
      · simp only [blockQ, hid, if_false] at h3
        simp only [Exit.inBlock, hid, if_false]
        exact ⟨ρ, L, h1, h2, h3⟩
    | _ => exact ⟨ρ, L, h1, h2, h3⟩) (h a w hf hc))

theorem CW.cond {c : Operand} {x y : Code} {t : Bool} {Q : Post} {ρ : Nat → Value} {L : List Ent} (hc : ev n ρ c = .bool t) (ht : t = true → CW P n w0 E x Q ρ L)
    (hf : t = false → CW P n w0 E y Q ρ L) : CW P n w0 E (.cond c x y) Q ρ L :=
  fun a w h1 h2 => wp_cond_split (by rw [h1.eval]; exact hc) (fun h => ht h a w h1 h2) (fun h => hf h a w h1 h2)
theorem CW.cond_t {c : Operand} {x y : Code} {Q : Post} {ρ : Nat → Value} {L : List Ent} (hc : ev n ρ c = .bool true) (h : CW P n w0 E x Q ρ L) : CW P n w0 E (.cond c x y) Q ρ L :=
  fun a w h1 h2 => wp_cond_true (by rw [h1.eval]; exact hc) (h a w h1 h2)
theorem CW.cond_f {c : Operand} {x y : Code} {Q : Post} {ρ : Nat → Value} {L : List Ent} (hc : ev n ρ c = .bool false) (h : CW P n w0 E y Q ρ L) : CW P n w0 E (.cond c x y) Q ρ L :=
  fun a w h1 h2 => wp_cond_false (by rw [h1.eval]; exact hc) (h a w h1 h2)
/-- A test on numbers. -/
theorem CW.cond_dec {c : Operand} {x y : Code} {p : Prop} [Decidable p] {Q : Post} {ρ : Nat → Value} {L : List Ent} (hc : ev n ρ c = .bool (decide p)) (ht : p → CW P n w0 E x Q ρ L)
    (hf : ¬ p → CW P n w0 E y Q ρ L) : CW P n w0 E (.cond c x y) Q ρ L :=
  CW.cond hc (fun h => ht (of_decide_eq_true h)) (fun h => hf (of_decide_eq_false h))

/-- A loop: an invariant over whatever states, a measure on them. -/
theorem CW.loop {σ : Type} {c : Code} {Q : Post} {ρ : Nat → Value} {L : List Ent} (St : σ → (Nat → Value) → List Ent → Prop) (μ : σ → Nat) (s0 : σ) (h0 : St s0 ρ L)
    (round : ∀ s ρ L, St s ρ L → CW P n w0 E c (thenQ (fun ρ' L' => ∃ s', St s' ρ' L' ∧ μ s' < μ s) Q) ρ L) : CW P n w0 E (.loop c) Q ρ L := by
  have key : ∀ k s ρ L a w, μ s < k → St s ρ L → FR n ρ a → Cl w0 E L w → Code.rounds P c (up n w0 E Q) k a w := by
    intro k
    induction k with
    | zero => intro s ρ L a w hk; omega
    | succ k ih =>
      intro s ρ L a w hk hs hf hc
      rw [rounds_succ]
      refine Code.wp_mono (up_then fun ρ' L' a' w' hf' hc' ⟨s', hs', hlt⟩ => ih s' ρ' L' a' w' (by omega) hs' hf' hc') (round s ρ L hs a w hf hc)
  exact fun a w hf hc => wp_loop_rounds (μ s0 + 1) (key _ s0 ρ L a w (by omega) h0 hf hc)

/-! ### Regions -/
def OW (P : Program) (n : Nat) (w0 : World) (E : List Nat) (ops : Array Oper) (rest : List Oper) (Q : Post) (ρ : Nat → Value) (L : List Ent) : Prop :=
  ∀ a w, FR n ρ a → Cl w0 E L w → wpList P ops (up n w0 E Q) rest a w

theorem CW.region {id : Nat} {l : List Oper} {Q : Post} {ρ : Nat → Value} {L : List Ent} (h : OW P n w0 E l.toArray l Q ρ L) : CW P n w0 E (.region id l.toArray false) Q ρ L :=
  fun a w hf hc => wp_region_lit (h a w hf hc)

theorem OW.nil {ops : Array Oper} {Q : Post} {ρ : Nat → Value} {L : List Ent} (h : Q .normal ρ L) : OW P n w0 E ops [] Q ρ L :=
  fun a w hf hc => wpList_nil ⟨ρ, L, hf, hc, h⟩

/-- One operation, in every world of the class: a value, and the class is kept. -/
def Yq (P : Program) (n : Nat) (w0 : World) (E : List Nat) (o : Oper) (ρ : Nat → Value) (L : List Ent) (v : Value) : Prop :=
  ∀ w, Cl w0 E L w → Oper.quietUpon P (Cl w0 E L) w v ((execOp (ev n ρ) o).run P w)

theorem OW.q {ops : Array Oper} {o : Oper} {rest : List Oper} {Q : Post} {ρ : Nat → Value} {L : List Ent} {v : Value} {d : Tmp} (hw : Region.wanted o (yl n ops ρ) = true) (hd : o.dst = some d)
    (hy : Yq P n w0 E o ρ L v) (h : OW P n w0 E ops rest Q (upd ρ d v) L) : OW P n w0 E ops (o :: rest) Q ρ L := by
  intro a w hf hc
  refine wpList_step fun K hK => ?_
  rw [hf.yielded, if_pos hw]
  have h1 := hy w hc
  rw [← hf.eval] at h1
  have hp : FR n (upd ρ d v) (a.put o.dst v) := by have := hf.put o.dst v; rwa [hd] at this ⊢
  unfold Oper.wp
  generalize (execOp a.eval o).run P w = r at h1 ⊢
  cases r with
  | ok x w' =>
    cases x <;> simp only [Oper.quietUpon] at h1 <;> simp only [Oper.upon]
    case value u => obtain ⟨rfl, rfl⟩ := h1; exact hK _ _ (h _ _ hp hc)
    case skip => obtain ⟨rfl, rfl⟩ := h1; exact hK _ _ (h _ _ hp hc)
    case enter f args =>
      obtain ⟨rfl, hcall⟩ := h1
      exact hcall.mono fun e w'' ⟨he, hc'⟩ => by subst he; exact hK _ _ (h _ _ hp hc')
  | halt x w' => simp only [Oper.quietUpon] at h1

/-- The same, nothing being written. -/
theorem OW.q0 {ops : Array Oper} {o : Oper} {rest : List Oper} {Q : Post} {ρ : Nat → Value} {L : List Ent} {v : Value} (hw : Region.wanted o (yl n ops ρ) = true) (hd : o.dst = none)
    (hy : Yq P n w0 E o ρ L v) (h : OW P n w0 E ops rest Q ρ L) : OW P n w0 E ops (o :: rest) Q ρ L := by
  intro a w hf hc
  refine wpList_step fun K hK => ?_
  rw [hf.yielded, if_pos hw]
  have h1 := hy w hc
  rw [← hf.eval] at h1
  have hp : ∀ v, FR n ρ (a.put o.dst v) := fun v => by have := hf.put o.dst v; rwa [hd] at this ⊢
  unfold Oper.wp
  generalize (execOp a.eval o).run P w = r at h1 ⊢
  cases r with
  | ok x w' =>
    cases x <;> simp only [Oper.quietUpon] at h1 <;> simp only [Oper.upon]
    case value u => obtain ⟨rfl, rfl⟩ := h1; exact hK _ _ (h _ _ (hp _) hc)
    case skip => obtain ⟨rfl, rfl⟩ := h1; exact hK _ _ (h _ _ (hp _) hc)
    case enter f args =>
      obtain ⟨rfl, hcall⟩ := h1
      exact hcall.mono fun e w'' ⟨he, hc'⟩ => by subst he; exact hK _ _ (h _ _ (hp _) hc')
  | halt x w' => simp only [Oper.quietUpon] at h1

theorem OW.skip {ops : Array Oper} {o : Oper} {rest : List Oper} {Q : Post} {ρ : Nat → Value} {L : List Ent} {d : Tmp} (hw : Region.wanted o (yl n ops ρ) = false) (hd : o.dst = some d)
    (h : OW P n w0 E ops rest Q (upd ρ d undef) L) : OW P n w0 E ops (o :: rest) Q ρ L := by
  intro a w hf hc
  refine wpList_step fun K hK => ?_
  rw [hf.yielded, if_neg (by rw [hw]; simp)]
  have hp : FR n (upd ρ d undef) (a.put o.dst undef) := by have := hf.put o.dst undef; rwa [hd] at this ⊢
  exact hK _ _ (h _ _ hp hc)

/-- An operation that turns memory: one that yields a value (or nothing), in another class. -/
theorem OW.m {ops : Array Oper} {o : Oper} {rest : List Oper} {Q : Post} {ρ : Nat → Value} {L : List Ent} (hw : Region.wanted o (yl n ops ρ) = true)
    (h : ∀ w, Cl w0 E L w → ∃ v L' w', ((execOp (ev n ρ) o).run P w = .ok (.value v) w' ∨ ((execOp (ev n ρ) o).run P w = .ok .skip w' ∧ v = undef)) ∧ Cl w0 E L' w' ∧ OW P n w0 E ops rest Q (updO ρ o.dst v) L') :
    OW P n w0 E ops (o :: rest) Q ρ L := by
  intro a w hf hc
  refine wpList_step fun K hK => ?_
  rw [hf.yielded, if_pos hw]
  obtain ⟨v, L', w', hr, hc', hn⟩ := h w hc
  rw [← hf.eval] at hr
  unfold Oper.wp
  rcases hr with hr | ⟨hr, rfl⟩ <;> (rw [hr]; exact hK _ _ (hn _ _ (hf.put _ _) hc'))

/-- A call that may turn memory, or hand out new one. -/
theorem OW.call {ops : Array Oper} {o : Oper} {rest : List Oper} {Q : Post} {ρ : Nat → Value} {L : List Ent} {f : FuncId} {av : Array Value} {d : Tmp} (hw : Region.wanted o (yl n ops ρ) = true) (hd : o.dst = some d)
    (hr : ∀ w, (execOp (ev n ρ) o).run P w = .ok (.enter f av) w)
    (h : ∀ w, Cl w0 E L w → Calls P f av w fun e w' => ∃ v L', e = .returned v ∧ Cl w0 E L' w' ∧ OW P n w0 E ops rest Q (upd ρ d v) L') :
    OW P n w0 E ops (o :: rest) Q ρ L := by
  intro a w hf hc
  refine wpList_step fun K hK => ?_
  rw [hf.yielded, if_pos hw]
  have hr' := hr w
  rw [← hf.eval] at hr'
  unfold Oper.wp
  rw [hr']
  simp only [Oper.upon]
  refine (h w hc).mono fun e w' ⟨v, L', he, hc', hn⟩ => ?_
  subst he
  have hp : FR n (upd ρ d v) (a.put o.dst v) := by have := hf.put o.dst v; rwa [hd] at this ⊢
  exact hK _ _ (hn _ _ hp hc')

/-! ### A region that draws its order -/
def QW (P : Program) (n : Nat) (w0 : World) (E : List Nat) (ops : Array Oper) (rest : List Oper) (K : (Nat → Value) → Prop) (L : List Ent) (ρ : Nat → Value) : Prop :=
  ∀ a, FR n ρ a → wpQuiet P ops (Cl w0 E L) (fun a' => ∃ ρ', FR n ρ' a' ∧ K ρ') rest a

theorem QW.nil {ops : Array Oper} {K : (Nat → Value) → Prop} {ρ : Nat → Value} {L : List Ent} (h : K ρ) : QW P n w0 E ops [] K L ρ :=
  fun a hf => wpQuiet_nil ⟨ρ, hf, h⟩

theorem QW.q {ops : Array Oper} {o : Oper} {rest : List Oper} {K : (Nat → Value) → Prop} {ρ : Nat → Value} {L : List Ent} {v : Value} {d : Tmp} (hw : Region.wanted o (yl n ops ρ) = true) (hd : o.dst = some d)
    (hy : Yq P n w0 E o ρ L v) (h : QW P n w0 E ops rest K L (upd ρ d v)) : QW P n w0 E ops (o :: rest) K L ρ := by
  intro a hf
  refine wpQuiet_step fun K' hK => ?_
  rw [hf.yielded, if_pos hw]
  have hp : FR n (upd ρ d v) (a.put o.dst v) := by have := hf.put o.dst v; rwa [hd] at this ⊢
  refine ⟨v, fun w hc => ?_, hK _ (h _ hp)⟩
  have := hy w hc
  rw [← hf.eval] at this
  exact this

theorem QW.q0 {ops : Array Oper} {o : Oper} {rest : List Oper} {K : (Nat → Value) → Prop} {ρ : Nat → Value} {L : List Ent} {v : Value} (hw : Region.wanted o (yl n ops ρ) = true) (hd : o.dst = none)
    (hy : Yq P n w0 E o ρ L v) (h : QW P n w0 E ops rest K L ρ) : QW P n w0 E ops (o :: rest) K L ρ := by
  intro a hf
  refine wpQuiet_step fun K' hK => ?_
  rw [hf.yielded, if_pos hw]
  have hp : FR n ρ (a.put o.dst v) := by have := hf.put o.dst v; rwa [hd] at this ⊢
  refine ⟨v, fun w hc => ?_, hK _ (h _ hp)⟩
  have := hy w hc
  rw [← hf.eval] at this
  exact this

theorem QW.skip {ops : Array Oper} {o : Oper} {rest : List Oper} {K : (Nat → Value) → Prop} {ρ : Nat → Value} {L : List Ent} {d : Tmp} (hw : Region.wanted o (yl n ops ρ) = false) (hd : o.dst = some d)
    (h : QW P n w0 E ops rest K L (upd ρ d undef)) : QW P n w0 E ops (o :: rest) K L ρ := by
  intro a hf
  refine wpQuiet_step fun K' hK => ?_
  rw [hf.yielded, if_neg (by rw [hw]; simp)]
  have hp : FR n (upd ρ d undef) (a.put o.dst undef) := by have := hf.put o.dst undef; rwa [hd] at this ⊢
  exact hK _ (h _ hp)

/-- All its operations are quiet. -/
theorem CW.draw {id : Nat} {l : List Oper} {Q : Post} {ρ : Nat → Value} {L : List Ent} (hm : P.follows .mixedOrders = true) (hB : Region.lexB .any l.toArray = true)
    (h : QW P n w0 E l.toArray l (fun ρ' => Q .normal ρ' L) L ρ) : CW P n w0 E (.region id l.toArray true) Q ρ L := by
  intro a w hf hc
  refine wp_region_quiet (C := Cl w0 E L) hm hB (hc.drew _) ?_
  have key : ∀ (r : List Oper) (a : Act), wpQuiet P l.toArray (Cl w0 E L) (fun a' => ∃ ρ', FR n ρ' a' ∧ Q .normal ρ' L) r a →
      wpQuiet P l.toArray (Cl w0 E L) (fun a' => ∀ w', Cl w0 E L w' → up n w0 E Q .normal a' w') r a := by
    intro r
    induction r with
    | nil => intro a ⟨ρ', h1, h2⟩; exact fun w' hw' => ⟨ρ', L, h1, hw', h2⟩
    | cons o r ih =>
      intro a h
      unfold wpQuiet at h ⊢
      split
      · rename_i hw; rw [if_pos hw] at h; exact Oper.quiet_mono ih h
      · rename_i hw; rw [if_neg hw] at h; exact ih _ h
  exact key l a (by simpa using h a hf)

/-! ### The call of a whole function -/
def fin (P : Program) (fn : Func) (w0 : World) (E : List Nat) (R : Ending → World → Prop) : Post := fun e ρ L =>
  (e = .normal ∨ e = .ret) ∧ ∀ a w, FR fn.ntmps ρ a → Cl w0 E L w → ∃ v, (results fn a.tmps).run P w = .ok v w ∧ R (.returned v) w

def args0 (args : List Value) : Nat → Value := fun t => args.getD t undef

theorem calls_of_CW {f : FuncId} {fn : Func} {c : Code} {args : List Value} {w : World} {R : Ending → World → Prop} {E : List Nat} {L : List Ent}
    (hf : P.funcs[f]? = some fn) (hb : fn.body = some c) (hn : args.length ≤ fn.ntmps) (hL : Cl w E L w)
    (h : CW P fn.ntmps w E c (fin P fn w E R) (args0 args) L) : Calls P f args.toArray w R := by
  refine calls_of_wp hf hb ?_
  have hfr : FR fn.ntmps (args0 args) { tmps := args.toArray ++ Array.replicate (fn.ntmps - args.toArray.size) undef, defers := [] } := by
    refine ⟨rfl, by simp; omega, fun t ht => ?_⟩
    simp only [args0]
    by_cases hl : t < args.length
    · rw [Array.getElem?_append_left (by simpa using hl)]
      simp [hl]
    · rw [Array.getElem?_append_right (by simp; omega)]
      simp only [List.size_toArray, Array.getElem?_replicate]
      rw [if_pos (by omega)]
      simp [List.getD_eq_getElem?_getD, List.getElem?_eq_none (Nat.le_of_not_lt hl)]
  refine Code.wp_mono (fun e a w' ⟨ρ, L, h1, h2, h3, h4⟩ => ?_) (h _ _ hfr hL)
  obtain ⟨v, hr, hR⟩ := h4 a w' h1 h2
  rcases h3 with rfl | rfl <;> exact ⟨h1.defers, v, hr, hR⟩

/-- What one result variable tells. -/
def RVal (P : Program) (n : Nat) (w0 : World) (E : List Nat) (ρ : Nat → Value) (L : List Ent) : ResultVar → Value → Prop
  | .tmp t, v => t < n ∧ ρ t = v
  | .cell p T, v => p < n ∧ ∃ a, ρ p = .pointer (some a) ∧ ∀ w, Cl w0 E L w → (loadVar T a).run P w = .ok v w

/-- The same of the frame itself. -/
def RFact (P : Program) (a : Act) (w : World) : ResultVar → Value → Prop
  | .tmp t, v => a.tmps[t]?.getD undef = v
  | .cell p T, v => ∃ ad, a.tmps[p]?.getD undef = .pointer (some ad) ∧ (loadVar T ad).run P w = .ok v w

theorem RVal.fact {ρ : Nat → Value} {L : List Ent} {r : ResultVar} {v : Value} (h : RVal P n w0 E ρ L r v) {a : Act} {w : World} (hf : FR n ρ a) (hc : Cl w0 E L w) : RFact P a w r v := by
  cases r with
  | tmp t =>
    obtain ⟨ht, rfl⟩ := h
    simp [RFact, hf.at_ t ht]
  | cell p T =>
    obtain ⟨hp, ad, ha, hl⟩ := h
    exact ⟨ad, by simp [hf.at_ p hp, ha], hl w hc⟩

theorem fin0 {fn : Func} {R : Ending → World → Prop} {e : Exit} {ρ : Nat → Value} {L : List Ent} (he : e = .normal ∨ e = .ret) (hr : fn.results = #[])
    (hR : ∀ w, Cl w0 E L w → R (.returned (.tuple #[])) w) : fin P fn w0 E R e ρ L := by
  refine ⟨he, fun a w hf hc => ⟨.tuple #[], ?_, hR w hc⟩⟩
  unfold results
  rw [hr]
  clear hr
  simp

theorem fin1 {fn : Func} {R : Ending → World → Prop} {e : Exit} {ρ : Nat → Value} {L : List Ent} {r1 : ResultVar} {v1 : Value} (he : e = .normal ∨ e = .ret) (hr : fn.results = #[r1])
    (h1 : RVal P fn.ntmps w0 E ρ L r1 v1) (hR : ∀ w, Cl w0 E L w → R (.returned (v1)) w) : fin P fn w0 E R e ρ L := by
  refine ⟨he, fun a w hf hc => ⟨v1, ?_, hR w hc⟩⟩
  have g1 := h1.fact hf hc
  clear h1
  unfold results
  rw [hr]
  clear hr
  cases r1
  all_goals simp only [RFact] at g1
  all_goals try (obtain ⟨ad1, ga1, gb1⟩ := g1)
  all_goals simp [asAddr, *]

theorem fin2 {fn : Func} {R : Ending → World → Prop} {e : Exit} {ρ : Nat → Value} {L : List Ent} {r1 r2 : ResultVar} {v1 v2 : Value} (he : e = .normal ∨ e = .ret) (hr : fn.results = #[r1, r2])
    (h1 : RVal P fn.ntmps w0 E ρ L r1 v1) (h2 : RVal P fn.ntmps w0 E ρ L r2 v2) (hR : ∀ w, Cl w0 E L w → R (.returned (.tuple #[v1, v2])) w) : fin P fn w0 E R e ρ L := by
  refine ⟨he, fun a w hf hc => ⟨.tuple #[v1, v2], ?_, hR w hc⟩⟩
  have g1 := h1.fact hf hc
  have g2 := h2.fact hf hc
  clear h1 h2
  unfold results
  rw [hr]
  clear hr
  cases r1 <;> cases r2
  all_goals simp only [RFact] at g1 g2
  all_goals try (obtain ⟨ad1, ga1, gb1⟩ := g1)
  all_goals try (obtain ⟨ad2, ga2, gb2⟩ := g2)
  all_goals simp [asAddr, *]

theorem fin3 {fn : Func} {R : Ending → World → Prop} {e : Exit} {ρ : Nat → Value} {L : List Ent} {r1 r2 r3 : ResultVar} {v1 v2 v3 : Value} (he : e = .normal ∨ e = .ret) (hr : fn.results = #[r1, r2, r3])
    (h1 : RVal P fn.ntmps w0 E ρ L r1 v1) (h2 : RVal P fn.ntmps w0 E ρ L r2 v2) (h3 : RVal P fn.ntmps w0 E ρ L r3 v3) (hR : ∀ w, Cl w0 E L w → R (.returned (.tuple #[v1, v2, v3])) w) : fin P fn w0 E R e ρ L := by
  refine ⟨he, fun a w hf hc => ⟨.tuple #[v1, v2, v3], ?_, hR w hc⟩⟩
  have g1 := h1.fact hf hc
  have g2 := h2.fact hf hc
  have g3 := h3.fact hf hc
  clear h1 h2 h3
  unfold results
  rw [hr]
  clear hr
  cases r1 <;> cases r2 <;> cases r3
  all_goals simp only [RFact] at g1 g2 g3
  all_goals try (obtain ⟨ad1, ga1, gb1⟩ := g1)
  all_goals try (obtain ⟨ad2, ga2, gb2⟩ := g2)
  all_goals try (obtain ⟨ad3, ga3, gb3⟩ := g3)
  all_goals simp [asAddr, *]

end
end Go.WL
