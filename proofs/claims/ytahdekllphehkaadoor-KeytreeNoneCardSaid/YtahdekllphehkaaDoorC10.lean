/- The statement KeytreeNoneCardSaid. -/
import Derived.Test.YtahdekllphehkaaDoorMF
import Derived.Test.YtahdekllphehkaaDoorMT
import Derived.Test.YtahdekllphehkaaDoorK12
set_option linter.unusedVariables false
namespace Go.Proofs.YtahdekllphehkaaDoor.keytreeNone
open Go.ChangeShapes Go.WideShapes Go.ChangeAt Go.RowKit Go.WL Go.Spec Go.Proofs.YtahdekllphehkaaDoor

set_option maxRecDepth 100000 in
theorem contract (H : Type) (enc : TypeId × Value → H) (W : World) (base : Nat) (args : Array Value) (ds gs : List (DataW H)) (before : List MemPlace)
    (hval : ∀ (j : Nat) t v, Tryd.f18.params[j]? = some t → args[j]? = some v → Value.okWide Tryd.prog W .any base t v)
    (hW : DataW.Whole enc Tryd.prog Tryd.f18.params.toList Rows.keytreeNoneSpec.vars false W args.toList ds gs before) (hL : laidMetH Tryd.prog Rows.keytreeNoneRow.laid W) :
    Calls Tryd.prog 18 args W fun e W' => ∃ v, e = .returned v ∧ Rows.keytreeNoneSpec.post enc Tryd.prog Tryd.f18 false true false false W args v W' := by
  have hW' := hW
  have hg : GL W := gl_of_laid hL
  obtain ⟨p, q, hA0, hV, rfl, hfz, hnd⟩ := hW
  have hA : DataW.TrodAll enc Tryd.prog W 0 (fun _ => true) true Tryd.f18.params.toList args.toList ds p := hA0
  rw [Tryd.params18] at hA hval
  obtain ⟨v0, vs0, d0, ds0, p0, q0, hargs, rfl, rfl, h0, r0⟩ := trodAll_cons hA
  obtain ⟨v1, vs1, d1, ds1, p1, q1, rfl, rfl, rfl, h1, r1⟩ := trodAll_cons r0
  obtain ⟨rfl, rfl, rfl⟩ := trodAll_nil r1
  obtain rfl : args = #[v0, v1] := by cases args; simp_all
  obtain ⟨rfl, rfl⟩ := trodVars_none hV
  obtain ⟨n0, rfl, hn0, hm0⟩ := i64_of Tryd.underlying3 (hval 0 3 v0 rfl rfl) h0
  obtain ⟨g1, rfl⟩ := hashv_of Tryd.underlying25 Tryd.underlying5 (by kernel_rfl) (by kernel_rfl) (hval 1 25 v1 rfl rfl) h1
  refine (keytreeNone_calls planted_other n0 g1 W hn0 hm0 hg).mono fun e W' ⟨he, hc⟩ => ?_
  subst he
  exact ⟨_, rfl, law_post laidOut hW' rfl (by kernel_rfl) Tryd.underlying4 (by rw [Tryd.params18]; exact (List.forall_mem_cons.2 ⟨⟨by kernel_rfl, of_decide_eq_true (by kernel_rfl)⟩, (List.forall_mem_cons.2 ⟨⟨by kernel_rfl, of_decide_eq_true (by kernel_rfl)⟩, fun _ h => by cases h⟩)⟩)) rfl hc.below⟩

set_option maxRecDepth 100000 in
theorem reads (os : Os) {H : Type} (enc : TypeId × Value → H) : DataW.whole enc Tryd.prog ((laidWorld os).forCall (fun _ _ => 0) ⟨#[], #[.int .i64 0, .agg (Array.replicate 32 (.int .u8 0))], []⟩).memory Tryd.f18.params.toList Rows.keytreeNoneSpec.vars false #[.int .i64 0, .agg (Array.replicate 32 (.int .u8 0))].toList 8 = some ([DataW.lit (.int .i64 0), DataW.agg (List.replicate 32 (DataW.lit (.int .u8 0)))], ([] : List (DataW H)), ([] : List MemPlace)) := by
  unfold laidWorld; kernel_rfl
set_option maxRecDepth 100000 in
theorem w_ok (os : Os) : Input.okWideB Tryd.prog ((laidWorld os).forCall (fun _ _ => 0) ⟨#[], #[.int .i64 0, .agg (Array.replicate 32 (.int .u8 0))], []⟩) 18 ⟨#[], #[.int .i64 0, .agg (Array.replicate 32 (.int .u8 0))], []⟩ = true := by unfold laidWorld; kernel_rfl
set_option maxRecDepth 100000 in
theorem w_sized (os : Os) {H : Type} (enc : TypeId × Value → H) : (OpenSpec.ofChange Rows.keytreeNoneSpec).bare.sizedB enc Tryd.prog Tryd.f18 false ((laidWorld os).forCall (fun _ _ => 0) ⟨#[], #[.int .i64 0, .agg (Array.replicate 32 (.int .u8 0))], []⟩).memory #[.int .i64 0, .agg (Array.replicate 32 (.int .u8 0))] 8 = true := by unfold laidWorld; kernel_rfl
set_option maxRecDepth 100000 in
theorem w_pre (os : Os) {H : Type} (enc : TypeId × Value → H) : (OpenSpec.ofChange Rows.keytreeNoneSpec).preRow enc Tryd.prog Tryd.f18 Rows.keytreeNoneRow.domain false Rows.keytreeNoneRow.laid ((laidWorld os).forCall (fun _ _ => 0) ⟨#[], #[.int .i64 0, .agg (Array.replicate 32 (.int .u8 0))], []⟩).memory #[.int .i64 0, .agg (Array.replicate 32 (.int .u8 0))] :=
  OpenSpec.preRow_of_cond 8 (reads os enc) rfl (fun k hk => by cases hk) (w_sized os enc) (laidH (w_laid os _))
set_option maxRecDepth 100000 in
theorem lifted (os : Os) (started : os.Started) (H : Type) (enc : TypeId × Value → H) (F : Stop.Interp) :
    ReturnsInHanded {} Tryd.checked os 18 .any ((OpenSpec.ofChange Rows.keytreeNoneSpec).preRow enc Tryd.prog Tryd.f18 Rows.keytreeNoneRow.domain false Rows.keytreeNoneRow.laid) (((OpenSpec.ofChange Rows.keytreeNoneSpec).at F).post enc Tryd.prog Tryd.f18 false true false false) := by
  refine returnsInHanded_of_row (C := Tryd.checked) (s := (OpenSpec.ofChange Rows.keytreeNoneSpec)) own started (by kernel_rfl) Tryd.func18
    (witness_row_at (enc := enc) (C := Tryd.checked) false (laidWorld os) #[.int .i64 0, .agg (Array.replicate 32 (.int .u8 0))] (by unfold laidWorld; rfl) (w_vars os _) (w_rows os _) (w_ok os) (w_pre os enc)) ?_
  intro W base args ds gs before hval hW _ _ _ hL _ _
  exact contract H enc W base args ds gs before hval hW hL
theorem c_name : Tryd.prog.funcNamed "speculum/speculumlaw09.KeytreeNone" = some 18 := by kernel_rfl
theorem c_inPlace : (Rows.keytreeNoneRow.inPlace == Tryd.prog.inPlace 18) = true := by kernel_rfl
theorem c_unf : (Rows.keytreeNoneRow.unfollowed == Tryd.prog.unfollowed 18) = true := by kernel_rfl
theorem c_rec : (Rows.keytreeNoneRow.recurses == Tryd.prog.recurses 18) = true := by kernel_rfl
theorem c_named : (Rows.keytreeNoneRow.named == Tryd.prog.varsNamed 18) = true := by kernel_rfl
theorem c_wf : Rows.keytreeNoneRow.wf (OpenSpec.ofChange Rows.keytreeNoneSpec) = true := by kernel_rfl
theorem c_params : Tryd.f18.params.all (Tryd.prog.readableRec ·) = true := by kernel_rfl
theorem c_closed : joinedFacts Tryd.prog 18 Tryd.f18 Rows.keytreeNoneSpec Rows.keytreeNoneRow = true :=
  closed_of c_wf c_params (by kernel_rfl) (by kernel_rfl) (by kernel_rfl) c_inPlace c_unf c_rec c_named (by kernel_rfl) (by kernel_rfl) (by kernel_rfl) (by kernel_rfl) (by kernel_rfl) (by kernel_rfl) (by kernel_rfl) (by kernel_rfl) (by kernel_rfl) rfl (by kernel_rfl) rfl rfl (by kernel_rfl) (by kernel_rfl) (by kernel_rfl) (by kernel_rfl)
set_option maxRecDepth 100000 in
theorem said : Rows.KeytreeNoneSaid :=
  OpenClaim.holds_of_cond 18 Tryd.f18 rfl rfl rfl rfl rfl rfl rfl ⟨rfl, rfl, rfl, rfl, rfl⟩ rfl rfl rfl rfl rfl c_name Tryd.func18 c_closed
    (of_decide_eq_true (by kernel_rfl)) (by unfold Func.isWrapper; first | (rw [if_pos (by decide +kernel)]; kernel_rfl) | (rw [if_neg (by decide +kernel)]; exact ⟨rfl, rfl⟩))
    (fun os started H enc _ F => by rw [OpenClaim.pre_eq_preRow]; exact lifted os started H enc F)
theorem plain (f : FuncId) (fn : Func) (hf : Tryd.pinned.checked.prog.funcNamed "speculum/speculumlaw09.KeytreeNone" = some f) (hfn : Tryd.pinned.checked.prog.funcs[f]? = some fn) :
    false = Tryd.pinned.checked.prog.looks [] ∧ ∀ (j : Nat) t, fn.params[j]? = some t → Tryd.pinned.checked.prog.wantsStandIn t = false := by
  obtain rfl : f = 18 := Option.some.inj (c_name.symm.trans hf) |>.symm
  obtain rfl : fn = Tryd.f18 := (Option.some.inj (Tryd.func18.symm.trans hfn)).symm
  refine ⟨j_looks, fun j t ht => ?_⟩
  rw [Tryd.params18] at ht
  have hm := Array.mem_of_getElem? ht
  exact ((List.forall_mem_cons (p := fun t => Tryd.prog.wantsStandIn t = false) (a := 3) (l := [25])).2 ⟨by kernel_rfl, (List.forall_mem_cons (p := fun t => Tryd.prog.wantsStandIn t = false) (a := 25) (l := [])).2 ⟨by kernel_rfl, fun _ h => by cases h⟩⟩) t (by simpa using hm)
theorem c_text : Rows.keytreeNoneRow.wfByText (OpenSpec.ofChange Rows.keytreeNoneSpec) = true := by kernel_rfl
theorem c_goes : false = Rows.keytreeNoneRow.goesBy Tryd.prog := by kernel_rfl
theorem card : Rows.KeytreeNoneCardSaid :=
  Claim7.holds_tied_plain_at .later [] _ _ _ _ said (fun _ h => by cases h) c_text (fun _ h => by cases h) keytreeNone_row_tie rfl ⟨rfl, rfl⟩ j_mainIs rfl plain c_goes
end Go.Proofs.YtahdekllphehkaaDoor.keytreeNone
namespace Go.Proofs.YtahdekllphehkaaDoor
theorem keytreeNone_holds : Rows.KeytreeNoneCardSaid := keytreeNone.card
end Go.Proofs.YtahdekllphehkaaDoor
