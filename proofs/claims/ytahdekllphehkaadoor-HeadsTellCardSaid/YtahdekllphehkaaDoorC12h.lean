/- The statement HeadsTellCardSaid. -/
import Derived.Test.YtahdekllphehkaaDoorMFh
import Derived.Test.YtahdekllphehkaaDoorF7h
import Derived.Test.YtahdekllphehkaaDoorH6h
set_option linter.unusedVariables false
namespace Go.Proofs.YtahdekllphehkaaDoor.headsTell
open Go.ChangeShapes Go.WideShapes Go.ChangeAt Go.RowKit Go.WL Go.Spec Go.Proofs.YtahdekllphehkaaDoor
set_option maxRecDepth 100000 in
theorem contract (H : Type) (enc : TypeId × Value → H) (W : World) (base : Nat) (args : Array Value) (ds gs : List (DataW H)) (before : List MemPlace)
    (hval : ∀ (j : Nat) t v, Tryd.f19.params[j]? = some t → args[j]? = some v → Value.okWide Tryd.prog W .any base t v)
    (hW : DataW.Whole enc Tryd.prog Tryd.f19.params.toList Rows.headsTellSpec.vars false W args.toList ds gs before) (hL : laidMetH Tryd.prog Rows.headsTellRow.laid W) :
    Calls Tryd.prog 19 args W fun e W' => ∃ v, e = .returned v ∧ Rows.headsTellSpec.post enc Tryd.prog Tryd.f19 false true false false W args v W' := by
  have hW' := hW
  have hg : GL W := gl_of_laid hL
  obtain ⟨p, q, hA0, hV, rfl, hfz, hnd⟩ := hW
  have hA : DataW.TrodAll enc Tryd.prog W 0 (fun _ => true) true Tryd.f19.params.toList args.toList ds p := hA0
  rw [Tryd.params19] at hA hval
  obtain ⟨v0, vs0, d0, ds0, p0, q0, hargs, rfl, rfl, h0, r0⟩ := trodAll_cons hA
  obtain ⟨v1, vs1, d1, ds1, p1, q1, rfl, rfl, rfl, h1, r1⟩ := trodAll_cons r0
  obtain ⟨v2, vs2, d2, ds2, p2, q2, rfl, rfl, rfl, h2, r2⟩ := trodAll_cons r1
  obtain ⟨rfl, rfl, rfl⟩ := trodAll_nil r2
  obtain rfl : args = #[v0, v1, v2] := by cases args; simp_all
  obtain ⟨rfl, rfl⟩ := trodVars_none hV
  obtain ⟨x0, s0, rfl, hok0, hs0⟩ := rough_of (m := 0) (hval 0 36 v0 rfl rfl) h0
  obtain ⟨x1, s1, rfl, hok1, hs1⟩ := rough_of (m := 0) (hval 1 36 v1 rfl rfl) h1
  obtain ⟨g2, rfl⟩ := hashv_of Tryd.underlying25 Tryd.underlying5 (by kernel_rfl) (by kernel_rfl) (hval 2 25 v2 rfl rfl) h2
  refine (headsTell_calls x0 x1 s0 s1 g2 W hok0 hok1 hs0 hs1 hg).mono fun e W' ⟨he, hc⟩ => ?_
  subst he
  exact ⟨_, rfl, law_post laidOut hW' rfl (by kernel_rfl) Tryd.underlying4 (by rw [Tryd.params19]; exact (List.forall_mem_cons.2 ⟨⟨by kernel_rfl, of_decide_eq_true (by kernel_rfl)⟩, (List.forall_mem_cons.2 ⟨⟨by kernel_rfl, of_decide_eq_true (by kernel_rfl)⟩, (List.forall_mem_cons.2 ⟨⟨by kernel_rfl, of_decide_eq_true (by kernel_rfl)⟩, fun _ h => by cases h⟩)⟩)⟩)) rfl hc.below⟩
set_option maxRecDepth 100000 in
theorem reads (os : Os) {H : Type} (enc : TypeId × Value → H) : DataW.whole enc Tryd.prog ((laidWorld os).forCall (fun _ _ => 0) ⟨#[], #[.agg (#[Value.int .i64 0] ++ Array.replicate 32 (Value.int .u8 0) ++ #[Value.int .i64 0, Value.string ByteArray.empty, Value.int .i8 0, Value.slice none 0 0]), .agg (#[Value.int .i64 0] ++ Array.replicate 32 (Value.int .u8 0) ++ #[Value.int .i64 0, Value.string ByteArray.empty, Value.int .i8 0, Value.slice none 0 0]), .agg (Array.replicate 32 (.int .u8 0))], []⟩).memory Tryd.f19.params.toList Rows.headsTellSpec.vars false #[.agg (#[Value.int .i64 0] ++ Array.replicate 32 (Value.int .u8 0) ++ #[Value.int .i64 0, Value.string ByteArray.empty, Value.int .i8 0, Value.slice none 0 0]), .agg (#[Value.int .i64 0] ++ Array.replicate 32 (Value.int .u8 0) ++ #[Value.int .i64 0, Value.string ByteArray.empty, Value.int .i8 0, Value.slice none 0 0]), .agg (Array.replicate 32 (.int .u8 0))].toList 8 = some ([DataW.agg [DataW.agg [DataW.lit (.int .i64 0), DataW.agg (List.replicate 32 (DataW.lit (.int .u8 0)))], DataW.lit (.int .i64 0), DataW.lit (.string []), DataW.lit (.int .i8 0), DataW.nil], DataW.agg [DataW.agg [DataW.lit (.int .i64 0), DataW.agg (List.replicate 32 (DataW.lit (.int .u8 0)))], DataW.lit (.int .i64 0), DataW.lit (.string []), DataW.lit (.int .i8 0), DataW.nil], DataW.agg (List.replicate 32 (DataW.lit (.int .u8 0)))], ([] : List (DataW H)), ([] : List MemPlace)) := by
  unfold laidWorld; kernel_rfl
set_option maxRecDepth 100000 in
theorem w_ok (os : Os) : Input.okWideB Tryd.prog ((laidWorld os).forCall (fun _ _ => 0) ⟨#[], #[.agg (#[Value.int .i64 0] ++ Array.replicate 32 (Value.int .u8 0) ++ #[Value.int .i64 0, Value.string ByteArray.empty, Value.int .i8 0, Value.slice none 0 0]), .agg (#[Value.int .i64 0] ++ Array.replicate 32 (Value.int .u8 0) ++ #[Value.int .i64 0, Value.string ByteArray.empty, Value.int .i8 0, Value.slice none 0 0]), .agg (Array.replicate 32 (.int .u8 0))], []⟩) 19 ⟨#[], #[.agg (#[Value.int .i64 0] ++ Array.replicate 32 (Value.int .u8 0) ++ #[Value.int .i64 0, Value.string ByteArray.empty, Value.int .i8 0, Value.slice none 0 0]), .agg (#[Value.int .i64 0] ++ Array.replicate 32 (Value.int .u8 0) ++ #[Value.int .i64 0, Value.string ByteArray.empty, Value.int .i8 0, Value.slice none 0 0]), .agg (Array.replicate 32 (.int .u8 0))], []⟩ = true := by unfold laidWorld; kernel_rfl
set_option maxRecDepth 100000 in
theorem w_sized (os : Os) {H : Type} (enc : TypeId × Value → H) : (OpenSpec.ofChange Rows.headsTellSpec).bare.sizedB enc Tryd.prog Tryd.f19 false ((laidWorld os).forCall (fun _ _ => 0) ⟨#[], #[.agg (#[Value.int .i64 0] ++ Array.replicate 32 (Value.int .u8 0) ++ #[Value.int .i64 0, Value.string ByteArray.empty, Value.int .i8 0, Value.slice none 0 0]), .agg (#[Value.int .i64 0] ++ Array.replicate 32 (Value.int .u8 0) ++ #[Value.int .i64 0, Value.string ByteArray.empty, Value.int .i8 0, Value.slice none 0 0]), .agg (Array.replicate 32 (.int .u8 0))], []⟩).memory #[.agg (#[Value.int .i64 0] ++ Array.replicate 32 (Value.int .u8 0) ++ #[Value.int .i64 0, Value.string ByteArray.empty, Value.int .i8 0, Value.slice none 0 0]), .agg (#[Value.int .i64 0] ++ Array.replicate 32 (Value.int .u8 0) ++ #[Value.int .i64 0, Value.string ByteArray.empty, Value.int .i8 0, Value.slice none 0 0]), .agg (Array.replicate 32 (.int .u8 0))] 8 = true := by unfold laidWorld; kernel_rfl
set_option maxRecDepth 100000 in
theorem w_pre (os : Os) {H : Type} (enc : TypeId × Value → H) : (OpenSpec.ofChange Rows.headsTellSpec).preRow enc Tryd.prog Tryd.f19 Rows.headsTellRow.domain false Rows.headsTellRow.laid ((laidWorld os).forCall (fun _ _ => 0) ⟨#[], #[.agg (#[Value.int .i64 0] ++ Array.replicate 32 (Value.int .u8 0) ++ #[Value.int .i64 0, Value.string ByteArray.empty, Value.int .i8 0, Value.slice none 0 0]), .agg (#[Value.int .i64 0] ++ Array.replicate 32 (Value.int .u8 0) ++ #[Value.int .i64 0, Value.string ByteArray.empty, Value.int .i8 0, Value.slice none 0 0]), .agg (Array.replicate 32 (.int .u8 0))], []⟩).memory #[.agg (#[Value.int .i64 0] ++ Array.replicate 32 (Value.int .u8 0) ++ #[Value.int .i64 0, Value.string ByteArray.empty, Value.int .i8 0, Value.slice none 0 0]), .agg (#[Value.int .i64 0] ++ Array.replicate 32 (Value.int .u8 0) ++ #[Value.int .i64 0, Value.string ByteArray.empty, Value.int .i8 0, Value.slice none 0 0]), .agg (Array.replicate 32 (.int .u8 0))] :=
  OpenSpec.preRow_of_cond 8 (reads os enc) rfl (fun k hk => by cases hk) (w_sized os enc) (laidH (w_laid os _))
set_option maxRecDepth 100000 in
theorem lifted (os : Os) (started : os.Started) (H : Type) (enc : TypeId × Value → H) (F : Stop.Interp) :
    ReturnsInHanded {} Tryd.checked os 19 .any ((OpenSpec.ofChange Rows.headsTellSpec).preRow enc Tryd.prog Tryd.f19 Rows.headsTellRow.domain false Rows.headsTellRow.laid) (((OpenSpec.ofChange Rows.headsTellSpec).at F).post enc Tryd.prog Tryd.f19 false true false false) := by
  refine returnsInHanded_of_row (C := Tryd.checked) (s := (OpenSpec.ofChange Rows.headsTellSpec)) own started (by kernel_rfl) Tryd.func19
    (witness_row_at (enc := enc) (C := Tryd.checked) false (laidWorld os) #[.agg (#[Value.int .i64 0] ++ Array.replicate 32 (Value.int .u8 0) ++ #[Value.int .i64 0, Value.string ByteArray.empty, Value.int .i8 0, Value.slice none 0 0]), .agg (#[Value.int .i64 0] ++ Array.replicate 32 (Value.int .u8 0) ++ #[Value.int .i64 0, Value.string ByteArray.empty, Value.int .i8 0, Value.slice none 0 0]), .agg (Array.replicate 32 (.int .u8 0))] (by unfold laidWorld; rfl) (w_vars os _) (w_rows os _) (w_ok os) (w_pre os enc)) ?_
  intro W base args ds gs before hval hW _ _ _ hL _ _
  exact contract H enc W base args ds gs before hval hW hL
theorem c_name : Tryd.prog.funcNamed "speculum/speculumlaw10.HeadsTell" = some 19 := by kernel_rfl
theorem c_inPlace : (Rows.headsTellRow.inPlace == Tryd.prog.inPlace 19) = true := by kernel_rfl
theorem c_unf : (Rows.headsTellRow.unfollowed == Tryd.prog.unfollowed 19) = true := by kernel_rfl
theorem c_rec : (Rows.headsTellRow.recurses == Tryd.prog.recurses 19) = true := by kernel_rfl
theorem c_named : (Rows.headsTellRow.named == Tryd.prog.varsNamed 19) = true := by kernel_rfl
theorem c_wf : Rows.headsTellRow.wf (OpenSpec.ofChange Rows.headsTellSpec) = true := by kernel_rfl
theorem c_params : Tryd.f19.params.all (Tryd.prog.readableRec ·) = true := by kernel_rfl
theorem c_closed : joinedFacts Tryd.prog 19 Tryd.f19 Rows.headsTellSpec Rows.headsTellRow = true :=
  closed_of c_wf c_params (by kernel_rfl) (by kernel_rfl) (by kernel_rfl) c_inPlace c_unf c_rec c_named (by kernel_rfl) (by kernel_rfl) (by kernel_rfl) (by kernel_rfl) (by kernel_rfl) (by kernel_rfl) (by kernel_rfl) (by kernel_rfl) (by kernel_rfl) rfl (by kernel_rfl) rfl rfl (by kernel_rfl) (by kernel_rfl) (by kernel_rfl) (by kernel_rfl)
set_option maxRecDepth 100000 in
theorem said : Rows.HeadsTellSaid :=
  OpenClaim.holds_of_cond 19 Tryd.f19 rfl rfl rfl rfl rfl rfl rfl ⟨rfl, rfl, rfl, rfl, rfl⟩ rfl rfl rfl rfl rfl c_name Tryd.func19 c_closed
    (of_decide_eq_true (by kernel_rfl)) (by unfold Func.isWrapper; first | (rw [if_pos (by decide +kernel)]; kernel_rfl) | (rw [if_neg (by decide +kernel)]; exact ⟨rfl, rfl⟩))
    (fun os started H enc _ F => by rw [OpenClaim.pre_eq_preRow]; exact lifted os started H enc F)
theorem plain (f : FuncId) (fn : Func) (hf : Tryd.pinned.checked.prog.funcNamed "speculum/speculumlaw10.HeadsTell" = some f) (hfn : Tryd.pinned.checked.prog.funcs[f]? = some fn) :
    false = Tryd.pinned.checked.prog.looks [] ∧ ∀ (j : Nat) t, fn.params[j]? = some t → Tryd.pinned.checked.prog.wantsStandIn t = false := by
  obtain rfl : f = 19 := Option.some.inj (c_name.symm.trans hf) |>.symm
  obtain rfl : fn = Tryd.f19 := (Option.some.inj (Tryd.func19.symm.trans hfn)).symm
  refine ⟨j_looks, fun j t ht => ?_⟩
  rw [Tryd.params19] at ht
  have hm := Array.mem_of_getElem? ht
  exact ((List.forall_mem_cons (p := fun t => Tryd.prog.wantsStandIn t = false) (a := 36) (l := [36, 25])).2 ⟨by kernel_rfl, (List.forall_mem_cons (p := fun t => Tryd.prog.wantsStandIn t = false) (a := 36) (l := [25])).2 ⟨by kernel_rfl, (List.forall_mem_cons (p := fun t => Tryd.prog.wantsStandIn t = false) (a := 25) (l := [])).2 ⟨by kernel_rfl, fun _ h => by cases h⟩⟩⟩) t (by simpa using hm)
theorem c_text : Rows.headsTellRow.wfByText (OpenSpec.ofChange Rows.headsTellSpec) = true := by kernel_rfl
theorem c_goes : false = Rows.headsTellRow.goesBy Tryd.prog := by kernel_rfl
theorem card : Rows.HeadsTellCardSaid :=
  Claim7.holds_tied_plain_at .later [] _ _ _ _ said (fun _ h => by cases h) c_text (fun _ h => by cases h) headsTell_row_tie rfl ⟨rfl, rfl⟩ j_mainIs rfl plain c_goes
end Go.Proofs.YtahdekllphehkaaDoor.headsTell
namespace Go.Proofs.YtahdekllphehkaaDoor
theorem headsTell_holds : Rows.HeadsTellCardSaid := headsTell.card
end Go.Proofs.YtahdekllphehkaaDoor
