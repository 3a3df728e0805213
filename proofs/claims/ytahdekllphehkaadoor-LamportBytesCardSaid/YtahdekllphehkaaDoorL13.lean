/- A region that draws its order, plain operations taken first; no statement of the seat is proved here. -/
import Derived.Test.YtahdekllphehkaaDoorL12
import Derived.OrdersHeld
namespace Go.WL
open Go.Spec
set_option linter.unusedVariables false
set_option linter.unusedSimpArgs false
section
variable {P : Program} {n : Nat} {w0 : World} {E : List Nat} {ops : Array Oper}

/-- A value, and the world is as it was. -/
def Yv (P : Program) (n : Nat) (w0 : World) (E : List Nat) (o : Oper) (ρ : Nat → Value) (L : List Ent) (v : Value) : Prop :=
  ∀ w, Cl w0 E L w → (execOp (ev n ρ) o).run P w = .ok (.value v) w
theorem value_of_quiet {C : World → Prop} {w : World} {v : Value} {s : Sem Value} (h : Oper.quietUpon P C w v ((do pure (Next.value (← s)) : Sem Next).run P w)) : (do pure (Next.value (← s)) : Sem Next).run P w = .ok (.value v) w := by
  have e : (do pure (Next.value (← s)) : Sem Next).run P w = (s.run P w).andThen fun x w' => .ok (.value x) w' := by simp
  rw [e] at h ⊢
  cases hs : s.run P w with
  | ok x w' =>
    rw [hs] at h
    simp only [Result.andThen_ok, Oper.quietUpon] at h ⊢
    obtain ⟨rfl, rfl⟩ := h
    rfl
  | halt x w' =>
    rw [hs] at h
    exact absurd h (by simp [Oper.quietUpon, Result.andThen])
def plainOp : Op → Bool
  | .move _ | .assign _ | .build .. | .load .. | .binOp .. | .unOp .. | .convert .. | .makeFunc .. | .slice .. | .fieldAddr .. | .field .. | .indexAddr .. | .index .. | .extract .. | .pick .. => true
  | _ => false
theorem yv_of_yq {o : Oper} {ρ : Nat → Value} {L : List Ent} {v : Value} (hp : plainOp o.op = true) (h : Yq P n w0 E o ρ L v) : Yv P n w0 E o ρ L v := by
  intro w hw
  have h1 := h w hw
  cases ho : o.op <;> rw [ho] at hp <;> first | (exfalso; revert hp; simp only [plainOp]; done) | (simp only [plainOp, reduceCtorEq] at hp; done) | skip
  case pick c a b =>
    simp only [execOp, ho] at h1 ⊢
    have e : (do pure (Next.value (if ← asBool (ev n ρ c) then ev n ρ a else ev n ρ b)) : Sem Next).run P w = ((asBool (ev n ρ c)).run P w).andThen fun x w' => .ok (.value (if x then ev n ρ a else ev n ρ b)) w' := by simp
    rw [e] at h1 ⊢
    cases hs : (asBool (ev n ρ c)).run P w with
    | ok x w' =>
      rw [hs] at h1
      simp only [Result.andThen_ok, Oper.quietUpon] at h1 ⊢
      obtain ⟨rfl, rfl⟩ := h1
      rfl
    | halt x w' =>
      rw [hs] at h1
      exact absurd h1 (by simp [Oper.quietUpon, Result.andThen])
  all_goals
    simp only [execOp, ho] at h1 ⊢
    first
    | exact value_of_quiet h1
    | (simp only [Sem.run_pure, Oper.quietUpon] at h1 ⊢; obtain ⟨h2, h3⟩ := h1; rw [h3])
theorem yv_len_str {o : Oper} {ρ : Nat → Value} {L : List Ent} {T : TypeId} {ats : List TypeId} {x : Operand} {s : ByteArray} (h : o.op = .call ⟨.builtin .len, [x].toArray, (T :: ats).toArray⟩) (ht : tstr P T = true) (hx : ev n ρ x = .string s) : Yv P n w0 E o ρ L (.int .i64 (s.size : Int)) := by
  intro w hc
  simp [execOp, h, resolve, hx, invoke, builtin, Builtin.len_, run_und (und_str ht), goInt]
theorem yv_len_slice {o : Oper} {ρ : Nat → Value} {L : List Ent} {T e : TypeId} {ats : List TypeId} {x : Operand} {a : Option Addr} {len cap : Nat} (h : o.op = .call ⟨.builtin .len, [x].toArray, (T :: ats).toArray⟩) (ht : tslice P T = some e) (hx : ev n ρ x = .slice a len cap) : Yv P n w0 E o ρ L (.int .i64 (len : Int)) := by
  intro w hc
  simp [execOp, h, resolve, hx, invoke, builtin, Builtin.len_, run_und (und_slice ht), goInt]

/-- Whatever order is drawn from here on. -/
def HW (P : Program) (n : Nat) (w0 : World) (E : List Nat) (ops : Array Oper) (L0 : List Ent) (fuel : Nat) (listed : Array Bool) (Q : Post) (ρ : Nat → Value) (L : List Ent) : Prop :=
  ∀ a w, FR n ρ a → Cl w0 E L w → wpAnyH P .any ops (fun e a w => e = .normal ∧ up n w0 E Q .normal a w) (Cl w0 E L0) fuel listed a w

theorem HW.take {L0 : List Ent} {fuel : Nat} {listed : Array Bool} {Q : Post} {ρ : Nat → Value} {L : List Ent} (i : Nat) {o : Oper} {v : Value} {d : Tmp} (hi : ops[i]? = some o) (hs : Region.noSelect ops = true) (hf : Region.free .any ops listed i = true)
    (hr : (Region.ready .any ops listed).contains i = true) (hw : Region.wanted o (yl n ops ρ) = true) (hd : o.dst = some d) (hsub : L0.Sublist L) (hy : Yv P n w0 E o ρ L0 v)
    (h : HW P n w0 E ops L0 fuel (listed.setIfInBounds i true) Q (upd ρ d v) L) : HW P n w0 E ops L0 (fuel + 1) listed Q ρ L := by
  intro a w hfr hc
  refine wpAnyH_take hi hs hf hr (fun c a w h => absurd h.1 (by simp)) (.inl ⟨by rw [hfr.yielded]; exact hw, fun w hw => by rw [hfr.eval]; exact hy w hw⟩) (hc.sub hsub) ?_
  have hp : FR n (upd ρ d v) (a.put o.dst v) := by have := hfr.put o.dst v; rwa [hd] at this ⊢
  exact h _ _ hp hc
theorem HW.skip {L0 : List Ent} {fuel : Nat} {listed : Array Bool} {Q : Post} {ρ : Nat → Value} {L : List Ent} (i : Nat) {o : Oper} {d : Tmp} (hi : ops[i]? = some o) (hs : Region.noSelect ops = true) (hf : Region.free .any ops listed i = true)
    (hr : (Region.ready .any ops listed).contains i = true) (hw : Region.wanted o (yl n ops ρ) = false) (hd : o.dst = some d) (hsub : L0.Sublist L)
    (h : HW P n w0 E ops L0 fuel (listed.setIfInBounds i true) Q (upd ρ d undef) L) : HW P n w0 E ops L0 (fuel + 1) listed Q ρ L := by
  intro a w hfr hc
  refine wpAnyH_take hi hs hf hr (fun c a w h => absurd h.1 (by simp)) (.inr ⟨by rw [hfr.yielded]; exact hw, rfl⟩) (hc.sub hsub) ?_
  have hp : FR n (upd ρ d undef) (a.put o.dst undef) := by have := hfr.put o.dst undef; rwa [hd] at this ⊢
  exact h _ _ hp hc
/-- What one operation must come to. -/
def HN (P : Program) (n : Nat) (w0 : World) (E : List Nat) (ops : Array Oper) (L0 : List Ent) (fuel : Nat) (listed : Array Bool) (Q : Post) : Post := fun e ρ L => e = .normal ∧ L0.Sublist L ∧ HW P n w0 E ops L0 fuel listed Q ρ L
theorem HW.all {L0 : List Ent} {fuel : Nat} {listed : Array Bool} {Q : Post} {ρ : Nat → Value} {L : List Ent} (rs : List Nat) (hr : Region.ready .any ops listed = rs) (hne : rs ≠ [])
    (h : ∀ i ∈ rs, ∃ o, ops[i]? = some o ∧ OW P n w0 E ops [o] (HN P n w0 E ops L0 fuel (listed.setIfInBounds i true) Q) ρ L) : HW P n w0 E ops L0 (fuel + 1) listed Q ρ L := by
  intro a w hfr hc
  refine wpAnyH_all hr hne fun i hi => ?_
  obtain ⟨o, ho, how⟩ := h i hi
  have h1 := how a w hfr hc
  have hnext : ∀ a' w', up n w0 E (HN P n w0 E ops L0 fuel (listed.setIfInBounds i true) Q) .normal a' w' → Cl w0 E L0 w' ∧ wpAnyH P .any ops (fun e a w => e = .normal ∧ up n w0 E Q .normal a w) (Cl w0 E L0) fuel (listed.setIfInBounds i true) a' w' := by
    intro a' w' ⟨ρ', L', hf', hc', _, hsub, hh⟩
    exact ⟨hc'.sub hsub, hh a' w' hf' hc'⟩
  have hno : ∀ c a' w', ¬ up n w0 E (HN P n w0 E ops L0 fuel (listed.setIfInBounds i true) Q) (.panic c) a' w' := fun c a' w' ⟨ρ', L', _, _, hne, _⟩ => by cases hne
  have hlo : ¬ LetsOut (up n w0 E (HN P n w0 E ops L0 fuel (listed.setIfInBounds i true) Q)) := fun ⟨a', w', ρ', L', _, _, hne, _⟩ => by cases hne
  unfold wpOp
  simp only [ho]
  unfold wpList at h1
  split
  · rename_i hw
    rw [if_pos hw] at h1
    rcases h1 with h1 | ⟨_, h2⟩
    · refine .inl ?_
      unfold Oper.wp at *
      generalize (execOp a.eval o).run P w = r at *
      cases r with
      | ok x w' =>
        cases x <;> simp only [Oper.upon] at h1 ⊢
        case value u => exact hnext _ _ h1
        case skip => exact hnext _ _ h1
        case defer d => exact hnext _ _ h1
        case enter f args =>
          refine Calls.mono h1 fun e w'' he => ?_
          cases e with
          | returned u => exact hnext _ _ he
          | panicked c => exact absurd he (hno _ _ _)
          | outgrown => exact absurd he hlo
        case row row args => exact Rows.mono h1 fun u w'' he => hnext _ _ he
      | halt x w' =>
        cases x <;> simp only [Oper.upon] at h1 ⊢
        case panic u => exact absurd h1 (hno _ _ _)
    · exact absurd h2 hlo
  · rename_i hw
    rw [if_neg hw] at h1
    exact hnext _ _ h1
theorem HW.one {L0 : List Ent} {fuel : Nat} {listed : Array Bool} {Q : Post} {ρ : Nat → Value} {L : List Ent} (i : Nat) {o : Oper} (hr : Region.ready .any ops listed = [i]) (hi : ops[i]? = some o)
    (h : OW P n w0 E ops [o] (HN P n w0 E ops L0 fuel (listed.setIfInBounds i true) Q) ρ L) : HW P n w0 E ops L0 (fuel + 1) listed Q ρ L :=
  HW.all [i] hr (by simp) fun k hk => by
    rw [List.mem_singleton] at hk
    subst hk
    exact ⟨o, hi, h⟩
theorem HW.two {L0 : List Ent} {fuel : Nat} {listed : Array Bool} {Q : Post} {ρ : Nat → Value} {L : List Ent} (i j : Nat) {o o' : Oper} (hr : Region.ready .any ops listed = [i, j]) (hi : ops[i]? = some o) (hj : ops[j]? = some o')
    (h : OW P n w0 E ops [o] (HN P n w0 E ops L0 fuel (listed.setIfInBounds i true) Q) ρ L) (h' : OW P n w0 E ops [o'] (HN P n w0 E ops L0 fuel (listed.setIfInBounds j true) Q) ρ L) : HW P n w0 E ops L0 (fuel + 1) listed Q ρ L :=
  HW.all [i, j] hr (by simp) fun k hk => by
    rcases List.mem_cons.1 hk with rfl | hk
    · exact ⟨o, hi, h⟩
    · rw [List.mem_singleton] at hk
      subst hk
      exact ⟨o', hj, h'⟩
theorem HW.three {L0 : List Ent} {fuel : Nat} {listed : Array Bool} {Q : Post} {ρ : Nat → Value} {L : List Ent} (i j l : Nat) {o o' o'' : Oper} (hr : Region.ready .any ops listed = [i, j, l]) (hi : ops[i]? = some o) (hj : ops[j]? = some o') (hl : ops[l]? = some o'')
    (h : OW P n w0 E ops [o] (HN P n w0 E ops L0 fuel (listed.setIfInBounds i true) Q) ρ L) (h' : OW P n w0 E ops [o'] (HN P n w0 E ops L0 fuel (listed.setIfInBounds j true) Q) ρ L)
    (h'' : OW P n w0 E ops [o''] (HN P n w0 E ops L0 fuel (listed.setIfInBounds l true) Q) ρ L) : HW P n w0 E ops L0 (fuel + 1) listed Q ρ L :=
  HW.all [i, j, l] hr (by simp) fun k hk => by
    rcases List.mem_cons.1 hk with rfl | hk
    · exact ⟨o, hi, h⟩
    · rcases List.mem_cons.1 hk with rfl | hk
      · exact ⟨o', hj, h'⟩
      · rw [List.mem_singleton] at hk
        subst hk
        exact ⟨o'', hl, h''⟩
theorem HW.done {L0 : List Ent} {fuel : Nat} {listed : Array Bool} {Q : Post} {ρ : Nat → Value} {L : List Ent} (hr : Region.ready .any ops listed = []) (h : Q .normal ρ L) : HW P n w0 E ops L0 fuel listed Q ρ L :=
  fun a w hf hc => wpAnyH_done hr ⟨rfl, ρ, L, hf, hc, h⟩ fuel
theorem HW.perm {L0 : List Ent} {fuel : Nat} {listed : Array Bool} {Q : Post} {ρ : Nat → Value} {L L' : List Ent} (hp : L.Perm L') (h : HW P n w0 E ops L0 fuel listed Q ρ L') : HW P n w0 E ops L0 fuel listed Q ρ L :=
  fun a w hf hc => h a w hf (hc.perm hp)
/-- The beginning. -/
theorem CW.held {id : Nat} {l : List Oper} {Q : Post} {ρ : Nat → Value} {L : List Ent} (L0 : List Ent) (hm : P.follows .mixedOrders = true) (h : HW P n w0 E l.toArray L0 l.length (Array.replicate l.length false) Q ρ L) : CW P n w0 E (.region id l.toArray true) Q ρ L := by
  intro a w hf hc
  have h1 := h a _ hf (hc.drew (w.drawn + 1))
  rw [← List.size_toArray] at h1
  have h2 := wp_region_held (id := id) hm h1
  exact Code.wp_mono (Q := fun e a w => e = .normal ∧ up n w0 E Q .normal a w) (fun e a' w' h3 => by obtain ⟨he, hu⟩ := h3; subst he; exact hu) h2
theorem CW.heldL {id : Nat} {l : List Oper} {Q : Post} {ρ : Nat → Value} {L : List Ent} (hm : P.follows .mixedOrders = true) (h : HW P n w0 E l.toArray L l.length (Array.replicate l.length false) Q ρ L) : CW P n w0 E (.region id l.toArray true) Q ρ L := CW.held L hm h
/-- A cut behind a piece of code. -/
theorem CW.cutR {x y : Code} {Q : Post} {ρ : Nat → Value} {L : List Ent} (M : (Nat → Value) → List Ent → Prop) (h1 : CW P n w0 E x (fun e ρ L => e = .normal ∧ M ρ L) ρ L) (h2 : ∀ ρ L, M ρ L → CW P n w0 E y Q ρ L) : CW P n w0 E (.seq x y) Q ρ L :=
  CW.seq (CW.mono (fun e ρ L ⟨he, hm⟩ => by subst he; exact h2 ρ L hm) h1)
end
end Go.WL
