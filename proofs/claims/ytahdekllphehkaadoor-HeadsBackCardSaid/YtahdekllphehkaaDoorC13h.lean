/- The statement HeadsBackCardSaid. -/
import Derived.Test.YtahdekllphehkaaDoorMFh
import Derived.Test.YtahdekllphehkaaDoorF7h
import Derived.Test.YtahdekllphehkaaDoorH7h
set_option linter.unusedVariables false
namespace Go.Proofs.YtahdekllphehkaaDoor.headsBack
open Go.ChangeShapes Go.WideShapes Go.ChangeAt Go.RowKit Go.WL Go.Spec Go.Proofs.YtahdekllphehkaaDoor
set_option maxRecDepth 100000 in
theorem contract (H : Type) (enc : TypeId × Value → H) (W : World) (base : Nat) (args : Array Value) (ds gs : List (DataW H)) (before : List MemPlace)
    (hval : ∀ (j : Nat) t v, Tryd.f15.params[j]? = some t → args[j]? = some v → Value.okWide Tryd.prog W .any base t v)
    (hW : DataW.Whole enc Tryd.prog Tryd.f15.params.toList Rows.headsBackSpec.vars false W args.toList ds gs before) (hL : laidMetH Tryd.prog Rows.headsBackRow.laid W) :
    Calls Tryd.prog 15 args W fun e W' => ∃ v, e = .returned v ∧ Rows.headsBackSpec.post enc Tryd.prog Tryd.f15 false true false false W args v W' := by
  have hW' := hW
  have hg : GL W := gl_of_laid hL
  obtain ⟨p, q, hA0, hV, rfl, hfz, hnd⟩ := hW
  have hA : DataW.TrodAll enc Tryd.prog W 0 (fun _ => true) true Tryd.f15.params.toList args.toList ds p := hA0
  rw [Tryd.params15] at hA hval
  obtain ⟨v0, vs0, d0, ds0, p0, q0, hargs, rfl, rfl, h0, r0⟩ := trodAll_cons hA
  obtain ⟨v1, vs1, d1, ds1, p1, q1, rfl, rfl, rfl, h1, r1⟩ := trodAll_cons r0
  obtain ⟨v2, vs2, d2, ds2, p2, q2, rfl, rfl, rfl, h2, r2⟩ := trodAll_cons r1
  obtain ⟨rfl, rfl, rfl⟩ := trodAll_nil r2
  obtain rfl : args = #[v0, v1, v2] := by cases args; simp_all
  obtain ⟨rfl, rfl⟩ := trodVars_none hV
  obtain ⟨x0, s0, rfl, hok0, hs0⟩ := rough_of (m := 0) (hval 0 36 v0 rfl rfl) h0
  obtain ⟨s1, rfl, hl1⟩ := str_of Tryd.underlying9 (hval 1 9 v1 rfl rfl) h1
  obtain ⟨C2, rfl, hqc2, hqd2⟩ := u16_of Tryd.underlying39 (hval 2 39 v2 rfl rfl) h2
  refine (headsBack_calls x0 s0 s1 C2 W hok0 hqc2 hqd2 hs0 hg).mono fun e W' ⟨he, hc⟩ => ?_
  subst he
  exact ⟨_, rfl, law_post laidOut hW' rfl (by kernel_rfl) Tryd.underlying4 (by rw [Tryd.params15]; exact (List.forall_mem_cons.2 ⟨⟨by kernel_rfl, of_decide_eq_true (by kernel_rfl)⟩, (List.forall_mem_cons.2 ⟨⟨by kernel_rfl, of_decide_eq_true (by kernel_rfl)⟩, (List.forall_mem_cons.2 ⟨⟨by kernel_rfl, of_decide_eq_true (by kernel_rfl)⟩, fun _ h => by cases h⟩)⟩)⟩)) rfl hc.below⟩
set_option maxRecDepth 100000 in
theorem reads (os : Os) {H : Type} (enc : TypeId × Value → H) : DataW.whole enc Tryd.prog ((laidWorld os).forCall (fun _ _ => 0) ⟨#[], #[.agg (#[Value.int .i64 0] ++ Array.replicate 32 (Value.int .u8 0) ++ #[Value.int .i64 0, Value.string ByteArray.empty, Value.int .i8 0, Value.slice none 0 0]), .string ByteArray.empty, .int .u16 0], []⟩).memory Tryd.f15.params.toList Rows.headsBackSpec.vars false #[.agg (#[Value.int .i64 0] ++ Array.replicate 32 (Value.int .u8 0) ++ #[Value.int .i64 0, Value.string ByteArray.empty, Value.int .i8 0, Value.slice none 0 0]), .string ByteArray.empty, .int .u16 0].toList 8 = some ([DataW.agg [DataW.agg [DataW.lit (.int .i64 0), DataW.agg (List.replicate 32 (DataW.lit (.int .u8 0)))], DataW.lit (.int .i64 0), DataW.lit (.string []), DataW.lit (.int .i8 0), DataW.nil], DataW.lit (.string []), DataW.lit (.int .u16 0)], ([] : List (DataW H)), ([] : List MemPlace)) := by
  unfold laidWorld; kernel_rfl
set_option maxRecDepth 100000 in
theorem w_ok (os : Os) : Input.okWideB Tryd.prog ((laidWorld os).forCall (fun _ _ => 0) ⟨#[], #[.agg (#[Value.int .i64 0] ++ Array.replicate 32 (Value.int .u8 0) ++ #[Value.int .i64 0, Value.string ByteArray.empty, Value.int .i8 0, Value.slice none 0 0]), .string ByteArray.empty, .int .u16 0], []⟩) 15 ⟨#[], #[.agg (#[Value.int .i64 0] ++ Array.replicate 32 (Value.int .u8 0) ++ #[Value.int .i64 0, Value.string ByteArray.empty, Value.int .i8 0, Value.slice none 0 0]), .string ByteArray.empty, .int .u16 0], []⟩ = true := by unfold laidWorld; kernel_rfl
set_option maxRecDepth 100000 in
theorem w_sized (os : Os) {H : Type} (enc : TypeId × Value → H) : (OpenSpec.ofChange Rows.headsBackSpec).bare.sizedB enc Tryd.prog Tryd.f15 false ((laidWorld os).forCall (fun _ _ => 0) ⟨#[], #[.agg (#[Value.int .i64 0] ++ Array.replicate 32 (Value.int .u8 0) ++ #[Value.int .i64 0, Value.string ByteArray.empty, Value.int .i8 0, Value.slice none 0 0]), .string ByteArray.empty, .int .u16 0], []⟩).memory #[.agg (#[Value.int .i64 0] ++ Array.replicate 32 (Value.int .u8 0) ++ #[Value.int .i64 0, Value.string ByteArray.empty, Value.int .i8 0, Value.slice none 0 0]), .string ByteArray.empty, .int .u16 0] 8 = true := by unfold laidWorld; kernel_rfl
set_option maxRecDepth 100000 in
theorem w_pre (os : Os) {H : Type} (enc : TypeId × Value → H) : (OpenSpec.ofChange Rows.headsBackSpec).preRow enc Tryd.prog Tryd.f15 Rows.headsBackRow.domain false Rows.headsBackRow.laid ((laidWorld os).forCall (fun _ _ => 0) ⟨#[], #[.agg (#[Value.int .i64 0] ++ Array.replicate 32 (Value.int .u8 0) ++ #[Value.int .i64 0, Value.string ByteArray.empty, Value.int .i8 0, Value.slice none 0 0]), .string ByteArray.empty, .int .u16 0], []⟩).memory #[.agg (#[Value.int .i64 0] ++ Array.replicate 32 (Value.int .u8 0) ++ #[Value.int .i64 0, Value.string ByteArray.empty, Value.int .i8 0, Value.slice none 0 0]), .string ByteArray.empty, .int .u16 0] :=
  OpenSpec.preRow_of_cond 8 (reads os enc) rfl (fun k hk => by cases hk) (w_sized os enc) (laidH (w_laid os _))
set_option maxRecDepth 100000 in
theorem lifted (os : Os) (started : os.Started) (H : Type) (enc : TypeId × Value → H) (F : Stop.Interp) :
    ReturnsInHanded {} Tryd.checked os 15 .any ((OpenSpec.ofChange Rows.headsBackSpec).preRow enc Tryd.prog Tryd.f15 Rows.headsBackRow.domain false Rows.headsBackRow.laid) (((OpenSpec.ofChange Rows.headsBackSpec).at F).post enc Tryd.prog Tryd.f15 false true false false) := by
  refine returnsInHanded_of_row (C := Tryd.checked) (s := (OpenSpec.ofChange Rows.headsBackSpec)) own started (by kernel_rfl) Tryd.func15
    (witness_row_at (enc := enc) (C := Tryd.checked) false (laidWorld os) #[.agg (#[Value.int .i64 0] ++ Array.replicate 32 (Value.int .u8 0) ++ #[Value.int .i64 0, Value.string ByteArray.empty, Value.int .i8 0, Value.slice none 0 0]), .string ByteArray.empty, .int .u16 0] (by unfold laidWorld; rfl) (w_vars os _) (w_rows os _) (w_ok os) (w_pre os enc)) ?_
  intro W base args ds gs before hval hW _ _ _ hL _ _
  exact contract H enc W base args ds gs before hval hW hL
theorem c_name : Tryd.prog.funcNamed "speculum/speculumlaw10.HeadsBack" = some 15 := by kernel_rfl
theorem c_inPlace : (Rows.headsBackRow.inPlace == Tryd.prog.inPlace 15) = true := by kernel_rfl
theorem c_unf : (Rows.headsBackRow.unfollowed == Tryd.prog.unfollowed 15) = true := by kernel_rfl
theorem c_rec : (Rows.headsBackRow.recurses == Tryd.prog.recurses 15) = true := by kernel_rfl
theorem c_named : (Rows.headsBackRow.named == Tryd.prog.varsNamed 15) = true := by kernel_rfl
theorem c_wf : Rows.headsBackRow.wf (OpenSpec.ofChange Rows.headsBackSpec) = true := by kernel_rfl
theorem c_params : Tryd.f15.params.all (Tryd.prog.readableRec ·) = true := by kernel_rfl
theorem c_closed : joinedFacts Tryd.prog 15 Tryd.f15 Rows.headsBackSpec Rows.headsBackRow = true :=
  closed_of c_wf c_params (by kernel_rfl) (by kernel_rfl) (by kernel_rfl) c_inPlace c_unf c_rec c_named (by kernel_rfl) (by kernel_rfl) (by kernel_rfl) (by kernel_rfl) (by kernel_rfl) (by kernel_rfl) (by kernel_rfl) (by kernel_rfl) (by kernel_rfl) rfl (by kernel_rfl) rfl rfl (by kernel_rfl) (by kernel_rfl) (by kernel_rfl) (by kernel_rfl)
set_option maxRecDepth 100000 in
theorem said : Rows.HeadsBackSaid :=
  OpenClaim.holds_of_cond 15 Tryd.f15 rfl rfl rfl rfl rfl rfl rfl ⟨rfl, rfl, rfl, rfl, rfl⟩ rfl rfl rfl rfl rfl c_name Tryd.func15 c_closed
    (of_decide_eq_true (by kernel_rfl)) (by unfold Func.isWrapper; first | (rw [if_pos (by decide +kernel)]; kernel_rfl) | (rw [if_neg (by decide +kernel)]; exact ⟨rfl, rfl⟩))
    (fun os started H enc _ F => by rw [OpenClaim.pre_eq_preRow]; exact lifted os started H enc F)
theorem plain (f : FuncId) (fn : Func) (hf : Tryd.pinned.checked.prog.funcNamed "speculum/speculumlaw10.HeadsBack" = some f) (hfn : Tryd.pinned.checked.prog.funcs[f]? = some fn) :
    false = Tryd.pinned.checked.prog.looks [] ∧ ∀ (j : Nat) t, fn.params[j]? = some t → Tryd.pinned.checked.prog.wantsStandIn t = false := by
  obtain rfl : f = 15 := Option.some.inj (c_name.symm.trans hf) |>.symm
  obtain rfl : fn = Tryd.f15 := (Option.some.inj (Tryd.func15.symm.trans hfn)).symm
  refine ⟨j_looks, fun j t ht => ?_⟩
  rw [Tryd.params15] at ht
  have hm := Array.mem_of_getElem? ht
  exact ((List.forall_mem_cons (p := fun t => Tryd.prog.wantsStandIn t = false) (a := 36) (l := [9, 39])).2 ⟨by kernel_rfl, (List.forall_mem_cons (p := fun t => Tryd.prog.wantsStandIn t = false) (a := 9) (l := [39])).2 ⟨by kernel_rfl, (List.forall_mem_cons (p := fun t => Tryd.prog.wantsStandIn t = false) (a := 39) (l := [])).2 ⟨by kernel_rfl, fun _ h => by cases h⟩⟩⟩) t (by simpa using hm)
theorem c_text : Rows.headsBackRow.wfByText (OpenSpec.ofChange Rows.headsBackSpec) = true := by kernel_rfl
theorem c_goes : false = Rows.headsBackRow.goesBy Tryd.prog := by kernel_rfl
theorem card : Rows.HeadsBackCardSaid :=
  Claim7.holds_tied_plain_at .later [] _ _ _ _ said (fun _ h => by cases h) c_text (fun _ h => by cases h) headsBack_row_tie rfl ⟨rfl, rfl⟩ j_mainIs rfl plain c_goes
end Go.Proofs.YtahdekllphehkaaDoor.headsBack
namespace Go.Proofs.YtahdekllphehkaaDoor
theorem headsBack_holds : Rows.HeadsBackCardSaid := headsBack.card
end Go.Proofs.YtahdekllphehkaaDoor
