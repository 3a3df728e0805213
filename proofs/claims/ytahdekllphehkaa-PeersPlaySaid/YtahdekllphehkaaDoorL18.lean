/- Structs built of their parts, whatever these are; no statement of the seat is proved here. -/
import Derived.Test.YtahdekllphehkaaDoorL17
namespace Go.WL
open Go.Spec
set_option linter.unusedVariables false
set_option linter.unusedSimpArgs false

theorem foldl_set (off : Nat) : ∀ (vs : List Value) (k : Nat) (cs : List Value), off + k + vs.length ≤ cs.length →
    (vs.zipIdx k).foldl (fun (cs : Array Value) (x : Value × Nat) => cs.setIfInBounds (off + x.2) x.1) cs.toArray = (spl cs (off + k) vs).toArray
  | [], k, cs, h => by simp [spl]
  | v :: vs, k, cs, h => by
    simp only [List.length_cons] at h
    rw [List.zipIdx_cons, List.foldl_cons]
    have e : cs.toArray.setIfInBounds (off + k) v = (cs.set (off + k) v).toArray := by simp
    rw [e, foldl_set off vs (k + 1) (cs.set (off + k) v) (by rw [List.length_set]; omega)]
    congr 1
    unfold spl
    rw [List.length_cons]
    rw [show off + (k + 1) = off + k + 1 by omega]
    rw [List.take_set, List.drop_set]
    rw [if_pos (by omega), List.take_succ_eq_append_getElem (show off + k < cs.length by omega)]
    rw [List.set_append_right _ _ (by rw [List.length_take]; omega)]
    simp only [List.length_take, Nat.min_eq_left (show off + k ≤ cs.length by omega), Nat.sub_self, List.set_cons_zero, List.append_assoc, List.singleton_append]
    rw [show off + k + 1 + vs.length = off + k + (vs.length + 1) by omega]
theorem fill_app {place : Nat → Option (Nat × Nat)} {pre z vs : List Value} {i : Nat} {v : Value} {rest : List (Nat × Value)} (hp : place i = some (pre.length, vs.length)) (hv : v.cells = vs.toArray) (hb : vs.length ≤ z.length) :
    Instr.fill place (pre ++ z).toArray ((i, v) :: rest) = Instr.fill place ((pre ++ vs) ++ z.drop vs.length).toArray rest := by
  rw [Instr.fill, hp]
  simp only
  have h1 : v.cells.size = vs.length := by rw [hv]; simp
  rw [if_neg (by rw [h1]; simp; omega)]
  congr 1
  have e : v.cells.zipIdx.foldl (fun (cs : Array Value) (x : Value × Nat) => cs.setIfInBounds (pre.length + x.2) x.1) (pre ++ z).toArray = (vs.zipIdx 0).foldl (fun (cs : Array Value) (x : Value × Nat) => cs.setIfInBounds (pre.length + x.2) x.1) (pre ++ z).toArray := by
    rw [hv, ← Array.foldl_toList]
    congr 1
    simp
  refine Eq.trans ?_ (e.trans (foldl_set pre.length vs 0 (pre ++ z) (by rw [List.length_append]; omega))) |>.trans ?_
  · rfl
  · congr 1
    unfold spl
    rw [Nat.add_zero, List.take_left, ← List.drop_drop, List.drop_left, List.append_assoc]
theorem fill_end {place : Nat → Option (Nat × Nat)} {cs : List Value} : Instr.fill place cs.toArray [] = some cs.toArray := by rw [Instr.fill]
section
variable {P : Program} {n : Nat} {w0 : World} {E : List Nat} {o : Oper} {ρ : Nat → Value} {L : List Ent}
theorem yq_eql_bool {t t' : TypeId} {x y : Operand} {a b : Bool} (h : o.op = .binOp .eql t x y t') (hx : ev n ρ x = .bool a) (hy : ev n ρ y = .bool b) (ht : P.underlying t = some .bool) : Yq P n w0 E o ρ L (.bool (decide (a = b))) :=
  yq_val fun w _ => by
    have e := run_equalIn_bool' (P := P) w 9999 t a b ht
    have e2 : (a == b) = decide (a = b) := by cases a <;> cases b <;> rfl
    simp [execOp, h, hx, hy, eqGuard_bool, binOp, Op.equal, Op.maxDepth, e, e2]
theorem yq_neq_bool {t t' : TypeId} {x y : Operand} {a b : Bool} (h : o.op = .binOp .neq t x y t') (hx : ev n ρ x = .bool a) (hy : ev n ρ y = .bool b) (ht : P.underlying t = some .bool) : Yq P n w0 E o ρ L (.bool (decide (a ≠ b))) :=
  yq_val fun w _ => by
    have e := run_equalIn_bool' (P := P) w 9999 t a b ht
    have e2 : (a == b) = decide (a = b) := by cases a <;> cases b <;> rfl
    simp [execOp, h, hx, hy, eqGuard_bool, binOp, Op.equal, Op.maxDepth, e, e2]
end
end Go.WL
