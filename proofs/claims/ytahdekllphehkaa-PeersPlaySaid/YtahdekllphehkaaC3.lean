/- The statement PeersPlayCardSaid. -/
import Derived.Test.YtahdekllphehkaaF2
import Derived.Test.YtahdekllphehkaaF3
import Derived.Test.YtahdekllphehkaaA9
set_option linter.unusedVariables false
namespace Go.Proofs.Ytahdekllphehkaa.peersPlay
open Go.ChangeShapes Go.WideShapes Go.ChangeAt Go.RowKit Go.WL Go.Spec Go.Proofs.Ytahdekllphehkaa

set_option maxRecDepth 100000 in
theorem contract (H : Type) (enc : TypeId × Value → H) (W : World) (base : Nat) (args : Array Value) (ds gs : List (DataW H)) (before : List MemPlace)
    (hval : ∀ (j : Nat) t v, Try.f6.params[j]? = some t → args[j]? = some v → Value.okWide Try.prog W .any base t v)
    (hW : DataW.Whole enc Try.prog Try.f6.params.toList Rows.peersPlaySpec.vars false W args.toList ds gs before) (hL : laidMetH Try.prog Rows.peersPlayRow.laid W) :
    Calls Try.prog 6 args W fun e W' => ∃ v, e = .returned v ∧ Rows.peersPlaySpec.post enc Try.prog Try.f6 false true false false W args v W' := by
  have hW' := hW
  have hg : GL W := gl_of_laid hL
  obtain ⟨p, q, hA0, hV, rfl, hfz, hnd⟩ := hW
  have hA : DataW.TrodAll enc Try.prog W 0 (fun _ => true) true Try.f6.params.toList args.toList ds p := hA0
  rw [Try.params6] at hA hval
  obtain ⟨v0, vs0, d0, ds0, p0, q0, hargs, rfl, rfl, h0, r0⟩ := trodAll_cons hA
  obtain ⟨v1, vs1, d1, ds1, p1, q1, rfl, rfl, rfl, h1, r1⟩ := trodAll_cons r0
  obtain ⟨rfl, rfl, rfl⟩ := trodAll_nil r1
  obtain rfl : args = #[v0, v1] := by cases args; simp_all
  obtain ⟨rfl, rfl⟩ := trodVars_none hV
  obtain ⟨n0, rfl, hn0, hm0⟩ := i64_of Try.underlying3 (hval 0 3 v0 rfl rfl) h0
  have a1 : ∃ l, AsAt W v1 l := by
    obtain ⟨a, len, cap, rfl⟩ := okWide_slice Try.underlying28 (hval 1 28 v1 rfl rfl)
    obtain ⟨m, hm⟩ := h1
    obtain ⟨v, l, hv, hl, _⟩ := asAt_of_trod hm
    obtain rfl : Value.slice a len cap = v := by simpa [Value.cells] using hv
    exact ⟨l, hl⟩
  obtain ⟨l1, hs1⟩ := a1
  refine (peersPlay_calls n0 l1 v1 W hs1).mono fun e W' ⟨he, hc⟩ => ?_
  subst he
  exact ⟨_, rfl, law_post laidOut hW' rfl (by kernel_rfl) Try.underlying4 (by rw [Try.params6]; exact (List.forall_mem_cons.2 ⟨⟨by kernel_rfl, of_decide_eq_true (by kernel_rfl)⟩, (List.forall_mem_cons.2 ⟨⟨by kernel_rfl, of_decide_eq_true (by kernel_rfl)⟩, fun _ h => by cases h⟩)⟩)) rfl hc.below⟩

set_option maxRecDepth 100000 in
theorem reads (os : Os) {H : Type} (enc : TypeId × Value → H) : DataW.whole enc Try.prog ((laidWorld os).forCall (fun _ _ => 0) ⟨#[], #[.int .i64 0, .slice none 0 0], []⟩).memory Try.f6.params.toList Rows.peersPlaySpec.vars false #[.int .i64 0, .slice none 0 0].toList 8 = some ([DataW.lit (.int .i64 0), DataW.nil], ([] : List (DataW H)), ([] : List MemPlace)) := by
  unfold laidWorld; kernel_rfl
set_option maxRecDepth 100000 in
theorem w_ok (os : Os) : Input.okWideB Try.prog ((laidWorld os).forCall (fun _ _ => 0) ⟨#[], #[.int .i64 0, .slice none 0 0], []⟩) 6 ⟨#[], #[.int .i64 0, .slice none 0 0], []⟩ = true := by unfold laidWorld; kernel_rfl
set_option maxRecDepth 100000 in
theorem w_sized (os : Os) {H : Type} (enc : TypeId × Value → H) : (OpenSpec.ofChange Rows.peersPlaySpec).bare.sizedB enc Try.prog Try.f6 false ((laidWorld os).forCall (fun _ _ => 0) ⟨#[], #[.int .i64 0, .slice none 0 0], []⟩).memory #[.int .i64 0, .slice none 0 0] 8 = true := by unfold laidWorld; kernel_rfl
set_option maxRecDepth 100000 in
theorem w_pre (os : Os) {H : Type} (enc : TypeId × Value → H) : (OpenSpec.ofChange Rows.peersPlaySpec).preRow enc Try.prog Try.f6 Rows.peersPlayRow.domain false Rows.peersPlayRow.laid ((laidWorld os).forCall (fun _ _ => 0) ⟨#[], #[.int .i64 0, .slice none 0 0], []⟩).memory #[.int .i64 0, .slice none 0 0] :=
  OpenSpec.preRow_of_cond 8 (reads os enc) rfl (fun k hk => by cases hk) (w_sized os enc) (laidH (w_laid os _))
set_option maxRecDepth 100000 in
theorem lifted (os : Os) (started : os.Started) (H : Type) (enc : TypeId × Value → H) (F : Stop.Interp) :
    ReturnsInHanded {} Try.checked os 6 .any ((OpenSpec.ofChange Rows.peersPlaySpec).preRow enc Try.prog Try.f6 Rows.peersPlayRow.domain false Rows.peersPlayRow.laid) (((OpenSpec.ofChange Rows.peersPlaySpec).at F).post enc Try.prog Try.f6 false true false false) := by
  refine returnsInHanded_of_row (C := Try.checked) (s := (OpenSpec.ofChange Rows.peersPlaySpec)) own started (by kernel_rfl) Try.func6
    (witness_row_at (enc := enc) (C := Try.checked) false (laidWorld os) #[.int .i64 0, .slice none 0 0] (by unfold laidWorld; rfl) (w_vars os _) (w_rows os _) (w_ok os) (w_pre os enc)) ?_
  intro W base args ds gs before hval hW _ _ _ hL _ _
  exact contract H enc W base args ds gs before hval hW hL
theorem c_name : Try.prog.funcNamed "speculum/speculumlaw23.PeersPlay" = some 6 := by kernel_rfl
theorem c_inPlace : (Rows.peersPlayRow.inPlace == Try.prog.inPlace 6) = true := by kernel_rfl
theorem c_unf : (Rows.peersPlayRow.unfollowed == Try.prog.unfollowed 6) = true := by kernel_rfl
theorem c_rec : (Rows.peersPlayRow.recurses == Try.prog.recurses 6) = true := by kernel_rfl
theorem c_named : (Rows.peersPlayRow.named == Try.prog.varsNamed 6) = true := by kernel_rfl
theorem c_wf : Rows.peersPlayRow.wf (OpenSpec.ofChange Rows.peersPlaySpec) = true := by kernel_rfl
theorem c_params : Try.f6.params.all (Try.prog.readableRec ·) = true := by kernel_rfl
theorem c_closed : joinedFacts Try.prog 6 Try.f6 Rows.peersPlaySpec Rows.peersPlayRow = true :=
  closed_of c_wf c_params (by kernel_rfl) (by kernel_rfl) (by kernel_rfl) c_inPlace c_unf c_rec c_named (by kernel_rfl) (by kernel_rfl) (by kernel_rfl) (by kernel_rfl) (by kernel_rfl) (by kernel_rfl) (by kernel_rfl) (by kernel_rfl) (by kernel_rfl) rfl (by kernel_rfl) rfl rfl (by kernel_rfl) (by kernel_rfl) (by kernel_rfl) (by kernel_rfl)
set_option maxRecDepth 100000 in
theorem said : Rows.PeersPlaySaid :=
  OpenClaim.holds_of_cond 6 Try.f6 rfl rfl rfl rfl rfl rfl rfl ⟨rfl, rfl, rfl, rfl, rfl⟩ rfl rfl rfl rfl rfl c_name Try.func6 c_closed
    (of_decide_eq_true (by kernel_rfl)) (by unfold Func.isWrapper; first | (rw [if_pos (by decide +kernel)]; kernel_rfl) | (rw [if_neg (by decide +kernel)]; exact ⟨rfl, rfl⟩))
    (fun os started H enc _ F => by rw [OpenClaim.pre_eq_preRow]; exact lifted os started H enc F)
end Go.Proofs.Ytahdekllphehkaa.peersPlay
namespace Go.Proofs.Ytahdekllphehkaa
theorem peersPlay_holds : Rows.PeersPlaySaid := peersPlay.said
end Go.Proofs.Ytahdekllphehkaa
