/- The statement KeytreeSignCardSaid. -/
import Derived.Test.YtahdekllphehkaaDoorMF
import Derived.Test.YtahdekllphehkaaDoorMT
import Derived.Test.YtahdekllphehkaaDoorK12
set_option linter.unusedVariables false
namespace Go.Proofs.YtahdekllphehkaaDoor.keytreeSign
open Go.ChangeShapes Go.WideShapes Go.ChangeAt Go.RowKit Go.WL Go.Spec Go.Proofs.YtahdekllphehkaaDoor

set_option maxRecDepth 100000 in
theorem contract (H : Type) (enc : TypeId × Value → H) (W : World) (base : Nat) (args : Array Value) (ds gs : List (DataW H)) (before : List MemPlace)
    (hval : ∀ (j : Nat) t v, Tryd.f16.params[j]? = some t → args[j]? = some v → Value.okWide Tryd.prog W .any base t v)
    (hW : DataW.Whole enc Tryd.prog Tryd.f16.params.toList Rows.keytreeSignSpec.vars false W args.toList ds gs before) (hL : laidMetH Tryd.prog Rows.keytreeSignRow.laid W) :
    Calls Tryd.prog 16 args W fun e W' => ∃ v, e = .returned v ∧ Rows.keytreeSignSpec.post enc Tryd.prog Tryd.f16 false true false false W args v W' := by
  have hW' := hW
  have hg : GL W := gl_of_laid hL
  obtain ⟨p, q, hA0, hV, rfl, hfz, hnd⟩ := hW
  have hA : DataW.TrodAll enc Tryd.prog W 0 (fun _ => true) true Tryd.f16.params.toList args.toList ds p := hA0
  rw [Tryd.params16] at hA hval
  obtain ⟨v0, vs0, d0, ds0, p0, q0, hargs, rfl, rfl, h0, r0⟩ := trodAll_cons hA
  obtain ⟨v1, vs1, d1, ds1, p1, q1, rfl, rfl, rfl, h1, r1⟩ := trodAll_cons r0
  obtain ⟨v2, vs2, d2, ds2, p2, q2, rfl, rfl, rfl, h2, r2⟩ := trodAll_cons r1
  obtain ⟨rfl, rfl, rfl⟩ := trodAll_nil r2
  obtain rfl : args = #[v0, v1, v2] := by cases args; simp_all
  obtain ⟨rfl, rfl⟩ := trodVars_none hV
  obtain ⟨s0, rfl, hl0⟩ := str_of Tryd.underlying9 (hval 0 9 v0 rfl rfl) h0
  obtain ⟨n1, rfl, hn1, hm1⟩ := i64_of Tryd.underlying3 (hval 1 3 v1 rfl rfl) h1
  obtain ⟨g2, rfl⟩ := hashv_of Tryd.underlying25 Tryd.underlying5 (by kernel_rfl) (by kernel_rfl) (hval 2 25 v2 rfl rfl) h2
  refine (keytreeSign_calls planted_other s0 n1 g2 W hn1 hm1 hg).mono fun e W' ⟨he, hc⟩ => ?_
  subst he
  exact ⟨_, rfl, law_post laidOut hW' rfl (by kernel_rfl) Tryd.underlying4 (by rw [Tryd.params16]; exact (List.forall_mem_cons.2 ⟨⟨by kernel_rfl, of_decide_eq_true (by kernel_rfl)⟩, (List.forall_mem_cons.2 ⟨⟨by kernel_rfl, of_decide_eq_true (by kernel_rfl)⟩, (List.forall_mem_cons.2 ⟨⟨by kernel_rfl, of_decide_eq_true (by kernel_rfl)⟩, fun _ h => by cases h⟩)⟩)⟩)) rfl hc.below⟩

set_option maxRecDepth 100000 in
theorem reads (os : Os) {H : Type} (enc : TypeId × Value → H) : DataW.whole enc Tryd.prog ((laidWorld os).forCall (fun _ _ => 0) ⟨#[], #[.string ByteArray.empty, .int .i64 0, .agg (Array.replicate 32 (.int .u8 0))], []⟩).memory Tryd.f16.params.toList Rows.keytreeSignSpec.vars false #[.string ByteArray.empty, .int .i64 0, .agg (Array.replicate 32 (.int .u8 0))].toList 8 = some ([DataW.lit (.string []), DataW.lit (.int .i64 0), DataW.agg (List.replicate 32 (DataW.lit (.int .u8 0)))], ([] : List (DataW H)), ([] : List MemPlace)) := by
  unfold laidWorld; kernel_rfl
set_option maxRecDepth 100000 in
theorem w_ok (os : Os) : Input.okWideB Tryd.prog ((laidWorld os).forCall (fun _ _ => 0) ⟨#[], #[.string ByteArray.empty, .int .i64 0, .agg (Array.replicate 32 (.int .u8 0))], []⟩) 16 ⟨#[], #[.string ByteArray.empty, .int .i64 0, .agg (Array.replicate 32 (.int .u8 0))], []⟩ = true := by unfold laidWorld; kernel_rfl
set_option maxRecDepth 100000 in
theorem w_sized (os : Os) {H : Type} (enc : TypeId × Value → H) : (OpenSpec.ofChange Rows.keytreeSignSpec).bare.sizedB enc Tryd.prog Tryd.f16 false ((laidWorld os).forCall (fun _ _ => 0) ⟨#[], #[.string ByteArray.empty, .int .i64 0, .agg (Array.replicate 32 (.int .u8 0))], []⟩).memory #[.string ByteArray.empty, .int .i64 0, .agg (Array.replicate 32 (.int .u8 0))] 8 = true := by unfold laidWorld; kernel_rfl
set_option maxRecDepth 100000 in
theorem w_pre (os : Os) {H : Type} (enc : TypeId × Value → H) : (OpenSpec.ofChange Rows.keytreeSignSpec).preRow enc Tryd.prog Tryd.f16 Rows.keytreeSignRow.domain false Rows.keytreeSignRow.laid ((laidWorld os).forCall (fun _ _ => 0) ⟨#[], #[.string ByteArray.empty, .int .i64 0, .agg (Array.replicate 32 (.int .u8 0))], []⟩).memory #[.string ByteArray.empty, .int .i64 0, .agg (Array.replicate 32 (.int .u8 0))] :=
  OpenSpec.preRow_of_cond 8 (reads os enc) rfl (fun k hk => by cases hk) (w_sized os enc) (laidH (w_laid os _))
set_option maxRecDepth 100000 in
theorem lifted (os : Os) (started : os.Started) (H : Type) (enc : TypeId × Value → H) (F : Stop.Interp) :
    ReturnsInHanded {} Tryd.checked os 16 .any ((OpenSpec.ofChange Rows.keytreeSignSpec).preRow enc Tryd.prog Tryd.f16 Rows.keytreeSignRow.domain false Rows.keytreeSignRow.laid) (((OpenSpec.ofChange Rows.keytreeSignSpec).at F).post enc Tryd.prog Tryd.f16 false true false false) := by
  refine returnsInHanded_of_row (C := Tryd.checked) (s := (OpenSpec.ofChange Rows.keytreeSignSpec)) own started (by kernel_rfl) Tryd.func16
    (witness_row_at (enc := enc) (C := Tryd.checked) false (laidWorld os) #[.string ByteArray.empty, .int .i64 0, .agg (Array.replicate 32 (.int .u8 0))] (by unfold laidWorld; rfl) (w_vars os _) (w_rows os _) (w_ok os) (w_pre os enc)) ?_
  intro W base args ds gs before hval hW _ _ _ hL _ _
  exact contract H enc W base args ds gs before hval hW hL
theorem c_name : Tryd.prog.funcNamed "speculum/speculumlaw09.KeytreeSign" = some 16 := by kernel_rfl
theorem c_inPlace : (Rows.keytreeSignRow.inPlace == Tryd.prog.inPlace 16) = true := by kernel_rfl
theorem c_unf : (Rows.keytreeSignRow.unfollowed == Tryd.prog.unfollowed 16) = true := by kernel_rfl
theorem c_rec : (Rows.keytreeSignRow.recurses == Tryd.prog.recurses 16) = true := by kernel_rfl
theorem c_named : (Rows.keytreeSignRow.named == Tryd.prog.varsNamed 16) = true := by kernel_rfl
theorem c_wf : Rows.keytreeSignRow.wf (OpenSpec.ofChange Rows.keytreeSignSpec) = true := by kernel_rfl
theorem c_params : Tryd.f16.params.all (Tryd.prog.readableRec ·) = true := by kernel_rfl
theorem c_closed : joinedFacts Tryd.prog 16 Tryd.f16 Rows.keytreeSignSpec Rows.keytreeSignRow = true :=
  closed_of c_wf c_params (by kernel_rfl) (by kernel_rfl) (by kernel_rfl) c_inPlace c_unf c_rec c_named (by kernel_rfl) (by kernel_rfl) (by kernel_rfl) (by kernel_rfl) (by kernel_rfl) (by kernel_rfl) (by kernel_rfl) (by kernel_rfl) (by kernel_rfl) rfl (by kernel_rfl) rfl rfl (by kernel_rfl) (by kernel_rfl) (by kernel_rfl) (by kernel_rfl)
set_option maxRecDepth 100000 in
theorem said : Rows.KeytreeSignSaid :=
  OpenClaim.holds_of_cond 16 Tryd.f16 rfl rfl rfl rfl rfl rfl rfl ⟨rfl, rfl, rfl, rfl, rfl⟩ rfl rfl rfl rfl rfl c_name Tryd.func16 c_closed
    (of_decide_eq_true (by kernel_rfl)) (by unfold Func.isWrapper; first | (rw [if_pos (by decide +kernel)]; kernel_rfl) | (rw [if_neg (by decide +kernel)]; exact ⟨rfl, rfl⟩))
    (fun os started H enc _ F => by rw [OpenClaim.pre_eq_preRow]; exact lifted os started H enc F)
theorem plain (f : FuncId) (fn : Func) (hf : Tryd.pinned.checked.prog.funcNamed "speculum/speculumlaw09.KeytreeSign" = some f) (hfn : Tryd.pinned.checked.prog.funcs[f]? = some fn) :
    false = Tryd.pinned.checked.prog.looks [] ∧ ∀ (j : Nat) t, fn.params[j]? = some t → Tryd.pinned.checked.prog.wantsStandIn t = false := by
  obtain rfl : f = 16 := Option.some.inj (c_name.symm.trans hf) |>.symm
  obtain rfl : fn = Tryd.f16 := (Option.some.inj (Tryd.func16.symm.trans hfn)).symm
  refine ⟨j_looks, fun j t ht => ?_⟩
  rw [Tryd.params16] at ht
  have hm := Array.mem_of_getElem? ht
  exact ((List.forall_mem_cons (p := fun t => Tryd.prog.wantsStandIn t = false) (a := 9) (l := [3, 25])).2 ⟨by kernel_rfl, (List.forall_mem_cons (p := fun t => Tryd.prog.wantsStandIn t = false) (a := 3) (l := [25])).2 ⟨by kernel_rfl, (List.forall_mem_cons (p := fun t => Tryd.prog.wantsStandIn t = false) (a := 25) (l := [])).2 ⟨by kernel_rfl, fun _ h => by cases h⟩⟩⟩) t (by simpa using hm)
theorem c_text : Rows.keytreeSignRow.wfByText (OpenSpec.ofChange Rows.keytreeSignSpec) = true := by kernel_rfl
theorem c_goes : false = Rows.keytreeSignRow.goesBy Tryd.prog := by kernel_rfl
theorem card : Rows.KeytreeSignCardSaid :=
  Claim7.holds_tied_plain_at .later [] _ _ _ _ said (fun _ h => by cases h) c_text (fun _ h => by cases h) keytreeSign_row_tie rfl ⟨rfl, rfl⟩ j_mainIs rfl plain c_goes
end Go.Proofs.YtahdekllphehkaaDoor.keytreeSign
namespace Go.Proofs.YtahdekllphehkaaDoor
theorem keytreeSign_holds : Rows.KeytreeSignCardSaid := keytreeSign.card
end Go.Proofs.YtahdekllphehkaaDoor
