/- The statement PeersNoneCardSaid. -/
import Derived.Test.YtahdekllphehkaaF2
import Derived.Test.YtahdekllphehkaaF3
import Derived.Test.YtahdekllphehkaaA5
set_option linter.unusedVariables false
namespace Go.Proofs.Ytahdekllphehkaa.peersNone
open Go.ChangeShapes Go.WideShapes Go.ChangeAt Go.RowKit Go.WL Go.Spec Go.Proofs.Ytahdekllphehkaa

set_option maxRecDepth 100000 in
theorem contract (H : Type) (enc : TypeId × Value → H) (W : World) (base : Nat) (args : Array Value) (ds gs : List (DataW H)) (before : List MemPlace)
    (hval : ∀ (j : Nat) t v, Try.f7.params[j]? = some t → args[j]? = some v → Value.okWide Try.prog W .any base t v)
    (hW : DataW.Whole enc Try.prog Try.f7.params.toList Rows.peersNoneSpec.vars false W args.toList ds gs before) (hL : laidMetH Try.prog Rows.peersNoneRow.laid W) :
    Calls Try.prog 7 args W fun e W' => ∃ v, e = .returned v ∧ Rows.peersNoneSpec.post enc Try.prog Try.f7 false true false false W args v W' := by
  have hW' := hW
  have hg : GL W := gl_of_laid hL
  obtain ⟨p, q, hA0, hV, rfl, hfz, hnd⟩ := hW
  have hA : DataW.TrodAll enc Try.prog W 0 (fun _ => true) true Try.f7.params.toList args.toList ds p := hA0
  rw [Try.params7] at hA hval
  obtain ⟨v0, vs0, d0, ds0, p0, q0, hargs, rfl, rfl, h0, r0⟩ := trodAll_cons hA
  obtain ⟨rfl, rfl, rfl⟩ := trodAll_nil r0
  obtain rfl : args = #[v0] := by cases args; simp_all
  obtain ⟨rfl, rfl⟩ := trodVars_none hV
  obtain ⟨a0, rfl, ha0⟩ := act_of (m := 0) (hval 0 35 v0 rfl rfl) h0
  refine (peersNone_calls a0.kd a0.dr a0.ix a0.nw W).mono fun e W' ⟨he, hc⟩ => ?_
  subst he
  exact ⟨_, rfl, law_post laidOut hW' rfl (by kernel_rfl) Try.underlying4 (by rw [Try.params7]; exact (List.forall_mem_cons.2 ⟨⟨by kernel_rfl, of_decide_eq_true (by kernel_rfl)⟩, fun _ h => by cases h⟩)) rfl hc.below⟩

set_option maxRecDepth 100000 in
theorem reads (os : Os) {H : Type} (enc : TypeId × Value → H) : DataW.whole enc Try.prog ((laidWorld os).forCall (fun _ _ => 0) ⟨#[], #[.agg #[.int .u8 0, .int .i64 0, .int .i64 0, .int .u8 0]], []⟩).memory Try.f7.params.toList Rows.peersNoneSpec.vars false #[.agg #[.int .u8 0, .int .i64 0, .int .i64 0, .int .u8 0]].toList 8 = some ([DataW.agg [DataW.lit (.int .u8 0), DataW.lit (.int .i64 0), DataW.lit (.int .i64 0), DataW.lit (.int .u8 0)]], ([] : List (DataW H)), ([] : List MemPlace)) := by
  unfold laidWorld; kernel_rfl
set_option maxRecDepth 100000 in
theorem w_ok (os : Os) : Input.okWideB Try.prog ((laidWorld os).forCall (fun _ _ => 0) ⟨#[], #[.agg #[.int .u8 0, .int .i64 0, .int .i64 0, .int .u8 0]], []⟩) 7 ⟨#[], #[.agg #[.int .u8 0, .int .i64 0, .int .i64 0, .int .u8 0]], []⟩ = true := by unfold laidWorld; kernel_rfl
set_option maxRecDepth 100000 in
theorem w_sized (os : Os) {H : Type} (enc : TypeId × Value → H) : (OpenSpec.ofChange Rows.peersNoneSpec).bare.sizedB enc Try.prog Try.f7 false ((laidWorld os).forCall (fun _ _ => 0) ⟨#[], #[.agg #[.int .u8 0, .int .i64 0, .int .i64 0, .int .u8 0]], []⟩).memory #[.agg #[.int .u8 0, .int .i64 0, .int .i64 0, .int .u8 0]] 8 = true := by unfold laidWorld; kernel_rfl
set_option maxRecDepth 100000 in
theorem w_pre (os : Os) {H : Type} (enc : TypeId × Value → H) : (OpenSpec.ofChange Rows.peersNoneSpec).preRow enc Try.prog Try.f7 Rows.peersNoneRow.domain false Rows.peersNoneRow.laid ((laidWorld os).forCall (fun _ _ => 0) ⟨#[], #[.agg #[.int .u8 0, .int .i64 0, .int .i64 0, .int .u8 0]], []⟩).memory #[.agg #[.int .u8 0, .int .i64 0, .int .i64 0, .int .u8 0]] :=
  OpenSpec.preRow_of_cond 8 (reads os enc) rfl (fun k hk => by cases hk) (w_sized os enc) (laidH (w_laid os _))
set_option maxRecDepth 100000 in
theorem lifted (os : Os) (started : os.Started) (H : Type) (enc : TypeId × Value → H) (F : Stop.Interp) :
    ReturnsInHanded {} Try.checked os 7 .any ((OpenSpec.ofChange Rows.peersNoneSpec).preRow enc Try.prog Try.f7 Rows.peersNoneRow.domain false Rows.peersNoneRow.laid) (((OpenSpec.ofChange Rows.peersNoneSpec).at F).post enc Try.prog Try.f7 false true false false) := by
  refine returnsInHanded_of_row (C := Try.checked) (s := (OpenSpec.ofChange Rows.peersNoneSpec)) own started (by kernel_rfl) Try.func7
    (witness_row_at (enc := enc) (C := Try.checked) false (laidWorld os) #[.agg #[.int .u8 0, .int .i64 0, .int .i64 0, .int .u8 0]] (by unfold laidWorld; rfl) (w_vars os _) (w_rows os _) (w_ok os) (w_pre os enc)) ?_
  intro W base args ds gs before hval hW _ _ _ hL _ _
  exact contract H enc W base args ds gs before hval hW hL
theorem c_name : Try.prog.funcNamed "speculum/speculumlaw23.PeersNone" = some 7 := by kernel_rfl
theorem c_inPlace : (Rows.peersNoneRow.inPlace == Try.prog.inPlace 7) = true := by kernel_rfl
theorem c_unf : (Rows.peersNoneRow.unfollowed == Try.prog.unfollowed 7) = true := by kernel_rfl
theorem c_rec : (Rows.peersNoneRow.recurses == Try.prog.recurses 7) = true := by kernel_rfl
theorem c_named : (Rows.peersNoneRow.named == Try.prog.varsNamed 7) = true := by kernel_rfl
theorem c_wf : Rows.peersNoneRow.wf (OpenSpec.ofChange Rows.peersNoneSpec) = true := by kernel_rfl
theorem c_params : Try.f7.params.all (Try.prog.readableRec ·) = true := by kernel_rfl
theorem c_closed : joinedFacts Try.prog 7 Try.f7 Rows.peersNoneSpec Rows.peersNoneRow = true :=
  closed_of c_wf c_params (by kernel_rfl) (by kernel_rfl) (by kernel_rfl) c_inPlace c_unf c_rec c_named (by kernel_rfl) (by kernel_rfl) (by kernel_rfl) (by kernel_rfl) (by kernel_rfl) (by kernel_rfl) (by kernel_rfl) (by kernel_rfl) (by kernel_rfl) rfl (by kernel_rfl) rfl rfl (by kernel_rfl) (by kernel_rfl) (by kernel_rfl) (by kernel_rfl)
set_option maxRecDepth 100000 in
theorem said : Rows.PeersNoneSaid :=
  OpenClaim.holds_of_cond 7 Try.f7 rfl rfl rfl rfl rfl rfl rfl ⟨rfl, rfl, rfl, rfl, rfl⟩ rfl rfl rfl rfl rfl c_name Try.func7 c_closed
    (of_decide_eq_true (by kernel_rfl)) (by unfold Func.isWrapper; first | (rw [if_pos (by decide +kernel)]; kernel_rfl) | (rw [if_neg (by decide +kernel)]; exact ⟨rfl, rfl⟩))
    (fun os started H enc _ F => by rw [OpenClaim.pre_eq_preRow]; exact lifted os started H enc F)
end Go.Proofs.Ytahdekllphehkaa.peersNone
namespace Go.Proofs.Ytahdekllphehkaa
theorem peersNone_holds : Rows.PeersNoneSaid := peersNone.said
end Go.Proofs.Ytahdekllphehkaa
