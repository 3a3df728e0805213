/- Arguments opened, the tables, facts on the program; no statement of the seat is proved here. -/
import Derived.Test.YtahdekllphehkaaDoorMAh
import Derived.Test.YtahdekllphehkaaDoorCards
import Derived.Test.YtahdekllphehkaaDoorTie
import Derived.WalkKit
import Derived.ProofKit
import Derived.OpenShut
import Derived.Carry
import Derived.Deep.DeepHandedRow
import Derived.Lib.LaidTab
import Derived.Stop.LaidErr
import Derived.ChangeMaps5
import Derived.ChangeArms
set_option linter.unusedVariables false
set_option linter.unusedSimpArgs false
namespace Go.Proofs.YtahdekllphehkaaDoor
open Go.ChangeShapes Go.WideShapes Go.ChangeAt Go.RowKit Go.WL Go.Spec
section
variable {H : Type} {enc : TypeId × Value → H} {P : Program}
theorem trodAll_below {W W' : World} (hl : laidOutB P = true) (hb : Below W.heap.size W W') (sp : Nat → Bool) : ∀ (ts : List TypeId) (vs : List Value) (ds : List (DataW H)) (ps : List MemPlace),
    (∀ t ∈ ts, P.readableRec t = true ∧ t < P.types.size) → DataW.TrodAll enc P W 0 (fun _ => true) true ts vs ds ps → (∀ x ∈ ps, x.block < W.heap.size) → (∀ x ∈ ps, sp x.block = true) → DataW.TrodAll enc P W' 0 sp true ts vs ds ps
  | [], [], [], _, _, h, _, _ => h
  | t :: ts, v :: vs, d :: ds, ps, ht, h, hlt, hsp => by
    obtain ⟨p, q, h1, h2, rfl⟩ := h
    refine ⟨p, q, WideElems.Trod_stays hl (ht t (by simp)).1 (ht t (by simp)).2 h1 (fun x hx => hb.same (hlt x (by simp [hx]))) (fun x hx => hsp x (by simp [hx])), ?_, rfl⟩
    exact trodAll_below hl hb sp ts vs ds q (fun t' h' => ht t' (by simp [h'])) h2 (fun x hx => hlt x (by simp [hx])) (fun x hx => hsp x (by simp [hx]))
  | [], _ :: _, _, _, _, h, _, _ => h.elim
  | [], [], _ :: _, _, _, h, _, _ => h.elim
  | _ :: _, [], _, _, _, h, _, _ => h.elim
  | _ :: _, _ :: _, [], _, _, h, _, _ => h.elim
/-- A law that told true and turned nothing that was there. -/
theorem law_post {f : Func} {s : ChangeSpec} {fresh handsOn again : Bool} {W W' : World} {args : Array Value} {ds gs : List (DataW H)} {before : List MemPlace} {t : TypeId}
    (hl : laidOutB P = true) (hW : DataW.Whole enc P f.params.toList s.vars false W args.toList ds gs before) (hvars : s.vars = []) (hr : f.resultTypes = #[t]) (ht : P.underlying t = some .bool)
    (hpar : ∀ t ∈ f.params.toList, P.readableRec t = true ∧ t < P.types.size) (hs : s.fn H (ds ++ gs) = { results := [.lit (.bool true)], args := ds }) (hb : Below W.heap.size W W') :
    s.post enc P f false fresh handsOn again W args (.bool true) W' := by
  have hlt0 := fun p hp => hW.lt (p := p) hp
  have hlt : ∀ x ∈ before, x.block < W.heap.size := fun x hx => by simpa using hlt0 x hx
  obtain ⟨p, q, h1, h2, e, hz, hn⟩ := id hW
  rw [hvars] at h2
  have hgs : gs = [] ∧ q = [] := by
    cases gs with
    | nil => exact ⟨rfl, h2⟩
    | cons _ _ => exact h2.elim
  obtain ⟨rfl, rfl⟩ := hgs
  rw [List.append_nil] at e
  subst e
  have hargs : ∀ sp : Nat → Bool, (∀ x ∈ before, sp x.block = true) → DataW.TrodAll enc P W' 0 sp true f.params.toList args.toList ds before := fun sp hsp => trodAll_below hl hb sp _ _ _ _ hpar h1 hlt hsp
  have hres : ∀ (b : Nat) (sp : Nat → Bool) (hd : Bool), DataW.TrodAll enc P W' b sp hd f.resultTypes.toList ((Value.bool true).resultList f.resultTypes.size) [.lit (.bool true)] [] := fun b sp hd => by
    rw [hr]; exact ⟨[], [], shut_bool ht true, rfl, rfl⟩
  have hold : ∀ p ∈ before, (fun b => decide (b < W.heap.size)) p.block = true := fun p hp => by simpa using hlt p hp
  refine ⟨ds, [], before, [], before, [], hW, ?_, ?_, ?_, World.keptBut_mono (fun p hp => ⟨hp, .inr (by simpa using hp)⟩) (hb.frame (· ∈ before)), fun _ => ?_⟩
  · rw [hs]; exact hres _ _ _
  · rw [hs]; exact hargs _ hold
  · rw [hs, hvars]; exact rfl
  · refine ⟨ok_one hr rfl (okWide_bool_mk ht _), ?_⟩
    rw [hvars]
    refine ⟨_, [], ([] ++ before) ++ [], ⟨[] ++ before, [], trodAll_append (hargs _ (fun _ _ => rfl)) (hres _ _ _), rfl, rfl, ?_, ?_⟩, ?_⟩
    · intro b off hp
      have hp' : MemPlace.cell b off ∈ before := by simpa using hp
      rw [hb.frozen (hlt _ hp')]
      exact hz b off hp'
    · intro ha; cases ha
    · intro p hp _
      simpa using hp
theorem cells_of {w : World} {base k : Nat} {a : Addr} {cs : List Value} (h : w.cells? base a k = some cs) : cs.length = k ∧ ∀ i, i < k → w.cell? (a.add i) = cs[i]? := by
  unfold World.cells? at h
  split at h
  · have h1 := Lib.mapM_length h
    refine ⟨by simpa using h1, fun i hi => ?_⟩
    obtain ⟨b, hb, hf⟩ := Lib.mapM_at h i i (by simp [hi])
    rw [hb, hf]
  · cases h
theorem list_of {α : Type} {p : Nat → α → Prop} {k : Nat} (h : ∀ i, i < k → ∃ a, p i a) : ∃ l : List α, l.length = k ∧ ∀ i a, l[i]? = some a → p i a := by
  induction k with
  | zero => exact ⟨[], rfl, fun i a h => by simp at h⟩
  | succ k ih =>
    obtain ⟨l, hl, hp⟩ := ih fun i hi => h i (by omega)
    obtain ⟨a, ha⟩ := h k (by omega)
    refine ⟨l ++ [a], by simp [hl], fun i b hb => ?_⟩
    rcases Nat.lt_or_ge i k with hi | hi
    · rw [List.getElem?_append_left (by omega)] at hb; exact hp i b hb
    · rw [List.getElem?_append_right (by omega), hl] at hb
      have : i = k := by
        rcases Nat.lt_or_ge i (k + 1) with h1 | h1
        · omega
        · rw [List.getElem?_eq_none (by simp; omega)] at hb; cases hb
      subst this
      rw [Nat.sub_self] at hb
      simp at hb
      subst hb
      exact ha
/-- Bytes in an array. -/
theorem bytes_of_trod {W : World} {base : Nat} {sp : Nat → Bool} {hd : Bool} {m t e k : Nat} {cs : List Value} {x : DataW H × List MemPlace} (ht : P.underlying t = some (.array k e)) (he : P.underlying e = some (.int .u8)) (hc : P.cellsOf e = 1) (hct : P.cellsOf t = k)
    (h : DataW.trod enc P W base sp hd m t cs = some x) : ∃ l : Bytes, l.length = k ∧ cs = bc l := by
  obtain ⟨xs, m', rfl, rfl, hlen, hxl, hat⟩ := DataW.trod_array ht h
  rw [hct] at hlen
  have hel : ∀ i, i < k → ∃ b : UInt8, cs[i]? = some (U8 b) := by
    intro i hi
    have h1 := hat i hi
    rw [hc, Nat.mul_one, List.getElem?_eq_getElem (by omega)] at h1
    obtain ⟨n, hn, hx, hwf⟩ := DataW.trod_int he h1
    have hn' : cs[i]? = some (.int .u8 n) := by
      have : ((cs.drop i).take 1)[0]? = some (.int .u8 n) := by rw [hn]; rfl
      simpa using this
    have hr : 0 ≤ n ∧ n < 256 := by
      have := hwf
      simp [Lit.wf, IntKind.min, IntKind.max, IntKind.signed, IntKind.bits] at this
      omega
    refine ⟨UInt8.ofNat n.toNat, ?_⟩
    rw [hn']
    congr 2
    have : n.toNat < 256 := by omega
    simp [UInt8.toNat_ofNat', Nat.mod_eq_of_lt this, hr.1]
    omega
  obtain ⟨l, hl, hp⟩ := list_of hel
  refine ⟨l, hl, ?_⟩
  apply List.ext_getElem?
  intro i
  rw [bc, List.getElem?_map]
  by_cases hi : i < k
  · rw [List.getElem?_eq_getElem (show i < l.length by omega), hp i _ (List.getElem?_eq_getElem (show i < l.length by omega))]
    rfl
  · rw [List.getElem?_eq_none (by omega), List.getElem?_eq_none (by omega)]
    rfl
theorem hash_of {cs : List Value} (h : ∃ l : Bytes, l.length = 32 ∧ cs = bc l) : ∃ v : Hash, cs = hc v := by
  obtain ⟨l, hl, rfl⟩ := h
  exact ⟨hashOf l hl, (hc_hashOf l hl).symm⟩
/-- A slice of hashes as it was read. -/
theorem hsAt_of_trod {W : World} {t e u m : Nat} {cs : List Value} {x : DataW H × List MemPlace} {sp : Nat → Bool} {hd : Bool} (ht : P.underlying t = some (.slice e)) (he : P.underlying e = some (.array 32 u)) (hu : P.underlying u = some (.int .u8)) (hcu : P.cellsOf u = 1) (hce : P.cellsOf e = 32)
    (h : DataW.trod enc P W 0 sp hd m t cs = some x) : ∃ v l, cs = [v] ∧ HsAt W v l ∧ v.oneCell' = true := by
  rcases DataW.trod_slice ht h with ⟨rfl, _⟩ | ⟨a, len, cap, elems, rest, n, _, rfl, rfl, _, hl, hm, hlen, hel, _, _⟩
  · exact ⟨_, [], rfl, ⟨none, 0, rfl, Nat.le_refl _, .inl rfl⟩, rfl⟩
  · rw [hce] at hel
    have hex : ∀ i, i < len → ∃ v : Hash, ∀ j u, (hc v)[j]? = some u → W.cell? ((a.add (i * 32)).add j) = some u := by
      intro i hi
      have h1 := hel i hi
      rw [List.getElem?_eq_getElem (by omega)] at h1
      obtain ⟨cs', hc1, hc2⟩ := Option.bind_eq_some_iff.1 h1
      obtain ⟨v, rfl⟩ := hash_of (bytes_of_trod he hu hcu hce hc2)
      refine ⟨v, fun j u hj => ?_⟩
      have hj' : j < 32 := by
        rcases Nat.lt_or_ge j 32 with h | h
        · exact h
        · rw [List.getElem?_eq_none (by rw [hc_length]; exact h)] at hj; cases hj
      rw [(cells_of hc1).2 j hj', hj]
    obtain ⟨l, hll, hl2⟩ := list_of hex
    refine ⟨_, l, rfl, ⟨some a, cap, by rw [hll], by omega, ?_⟩, rfl⟩
    by_cases h0 : l = []
    · exact .inl h0
    · obtain ⟨b, off, spot⟩ := a
      have hpos : 0 < l.length := List.length_pos_iff.2 h0
      have hspot : spot = none := by
        have h1 := hl2 0 _ (List.getElem?_eq_getElem hpos) 0 (U8 (l[0].toList[0]'(by simp))) (by simp [hc, bc])
        simp only [Nat.zero_mul, Addr.add, if_true] at h1
        cases spot with
        | none => rfl
        | some s => simp [World.cell?] at h1; split at h1 <;> simp at h1
      subst hspot
      refine .inr ⟨b, off, rfl, fun j u hj => ?_⟩
      have hjl : j < 32 * l.length := by
        rcases Nat.lt_or_ge j (32 * l.length) with h | h
        · exact h
        · rw [List.getElem?_eq_none (by rw [flat_length]; exact h)] at hj; cases hj
      have hk : j / 32 < l.length := by omega
      have hq : j % 32 < 32 := Nat.mod_lt _ (by decide)
      have e1 : 32 * (j / 32) + j % 32 = j := by omega
      have h2 := hl2 (j / 32) _ (List.getElem?_eq_getElem hk) (j % 32) u (by rw [← flat_at l _ _ hk hq, e1]; exact hj)
      rw [add_mk, add_mk] at h2
      rwa [show off + j / 32 * 32 + j % 32 = off + j by omega] at h2
end
end Go.Proofs.YtahdekllphehkaaDoor
namespace Go.Proofs.YtahdekllphehkaaDoor
open Go.ChangeShapes Go.WideShapes Go.ChangeAt Go.RowKit Go.WL Go.Spec
theorem own : ownKnob Tryd.prog.godebug = none := by kernel_rfl
theorem laidOut : laidOutB Tryd.prog = true := by kernel_rfl
theorem gFirst : Tryd.prog.globalNamed "speculum/sha.first" = some 0 := by kernel_rfl
theorem gFirstT : (Tryd.prog.globals[0]?).map (·.type) = some 188 := by kernel_rfl
theorem gRounds : Tryd.prog.globalNamed "speculum/sha.rounds" = some 1 := by kernel_rfl
theorem gRoundsT : (Tryd.prog.globals[1]?).map (·.type) = some 190 := by kernel_rfl
theorem c188 : Tryd.prog.cellsOf 188 = 8 := by kernel_rfl
theorem c190 : Tryd.prog.cellsOf 190 = 64 := by kernel_rfl
theorem c187 : Tryd.prog.cellsOf 187 = 1 := by kernel_rfl
def laidL : List (String × DataW Unit) := [("speculum/sha.first", Rows.laid_speculum_sha_first), ("speculum/sha.rounds", Rows.laid_speculum_sha_rounds)]
theorem gl_of_laid {W : World} (h : laidMetH Tryd.prog laidL W) : GL W := by
  have h' : laidMet Tryd.prog (("speculum/sha.first", Lib.tabData .u32 (firstS.l.map fun x => (x.toNat : Int))) :: [("speculum/sha.rounds", Lib.tabData .u32 (roundKs.map fun x => (x.toNat : Int)))]) W := h
  have h2 : laidMet Tryd.prog (("speculum/sha.rounds", Lib.tabData .u32 (roundKs.map fun x => (x.toNat : Int))) :: []) W := by
    exact laidMet.tail h'
  have t1 := Lib.tabIs_of_head gFirst gFirstT Tryd.underlying188 Tryd.underlying187 c187 c188 h'
  have t2 := Lib.tabIs_of_head gRounds gRoundsT Tryd.underlying190 Tryd.underlying187 c187 c190 h2
  have conv : ∀ {l : List UInt32} {j : Nat} {u : Value}, (l.map U32)[j]? = some u → ∃ h : j < (l.map fun x => (x.toNat : Int)).length, u = .int .u32 ((l.map fun x => (x.toNat : Int)).getD j 0) := by
    intro l j u hu
    rw [List.getElem?_map] at hu
    rcases Nat.lt_or_ge j l.length with h | h
    · rw [List.getElem?_eq_getElem h] at hu
      refine ⟨by simpa using h, ?_⟩
      simp only [Option.map_some, Option.some.injEq] at hu
      rw [← hu, List.getD_eq_getElem?_getD, List.getElem?_map, List.getElem?_eq_getElem h]
      rfl
    · rw [List.getElem?_eq_none h] at hu; cases hu
  constructor
  · intro j u hu
    obtain ⟨hj, rfl⟩ := conv hu
    exact t1.cell gFirst j hj
  · intro j u hu
    obtain ⟨hj, rfl⟩ := conv hu
    exact t2.cell gRounds j hj
def setTab (cs : Array Value) : Obj → Obj
  | .cells _ t frozen => .cells cs t frozen
  | o => o
/-- A world whose tables hold what their text lays. -/
noncomputable def laidWorld (os : Os) : World :=
  { World.holding Tryd.prog os ⟨#[], #[], []⟩ with heap := ((World.holding Tryd.prog os ⟨#[], #[], []⟩).heap.modify 0 (setTab (firstS.l.map U32).toArray)).modify 1 (setTab (roundKs.map U32).toArray) }
set_option maxRecDepth 100000 in
theorem w_vars (os : Os) (args : Array Value) : ((laidWorld os).forCall (fun _ _ => 0) ⟨#[], args, []⟩).variablesB Tryd.prog = true := by kernel_rfl
set_option maxRecDepth 100000 in
theorem w_rows (os : Os) (args : Array Value) : (((laidWorld os).forCall (fun _ _ => 0) ⟨#[], args, []⟩).heap.toList.drop Tryd.prog.globals.size).take ((begin Tryd.prog (fun _ _ => 0) default).world.heap.size - Tryd.prog.globals.size) =
      (begin Tryd.prog (fun _ _ => 0) default).world.heap.toList.drop Tryd.prog.globals.size := by kernel_rfl
set_option maxRecDepth 100000 in
theorem w_laid (os : Os) (args : Array Value) : laidMet Tryd.prog laidL ((laidWorld os).forCall (fun _ _ => 0) ⟨#[], args, []⟩).memory :=
  laidMet_of_run' 8 (by kernel_rfl) (by kernel_rfl)
theorem laidH {W : World} (h : laidMet Tryd.prog laidL W) : laidMetH Tryd.prog laidL W := h
attribute [irreducible] laidWorld
end Go.Proofs.YtahdekllphehkaaDoor
namespace Go.Proofs.YtahdekllphehkaaDoor
open Go.ChangeShapes Go.WideShapes Go.ChangeAt Go.RowKit
set_option maxRecDepth 100000
def ioL : List Char := ['h', 'a', 'r', 'n', 'e', 's', 's', ' ', '0', 'b', 'e', 'b', '8', '2', '1', '2', '5', '0', 'e', '8', '8', 'f', '5', 'a', '6', 'c', '3', 'e', '8', '9', '7', '6', '7', '6', '8', 'e', '6', '4', '9', 'b', '4', '1', 'c', '3', '4', 'b', 'c', 'd', '0', 'b', 'd', '5', '4', '7', '1', '7', '8', 'd', '3', '6', '2', '1', '1', '7', 'b', '6', 'd', 'b', '2', '7', '5', 'a', ' ', 'c', 'u', 't', ' ', 'a', 't', ' ', 's', 'p', 'e', 'c', 'u', 'l', 'u', 'm', '/', 's', 'p', 'e', 'c', 'u', 'l', 'u', 'm', 'l', 'a', 'w', '0', '4', '.', 'T', 'r', 'e', 'e', 's', 'R', 'o', 'o', 't', ' ', 's', 'p', 'e', 'c', 'u', 'l', 'u', 'm', '/', 's', 'p', 'e', 'c', 'u', 'l', 'u', 'm', 'l', 'a', 'w', '0', '4', '.', 'T', 'r', 'e', 'e', 's', 'H', 'a', 'l', 'v', 'e', 's', ' ', 's', 'p', 'e', 'c', 'u', 'l', 'u', 'm', '/', 's', 'p', 'e', 'c', 'u', 'l', 'u', 'm', 'l', 'a', 'w', '3', '2', '.', 'E', 'v', 'i', 'd', 'e', 'n', 'c', 'e', 'B', 'a', 'c', 'k', ' ', 's', 'p', 'e', 'c', 'u', 'l', 'u', 'm', '/', 's', 'p', 'e', 'c', 'u', 'l', 'u', 'm', 'l', 'a', 'w', '0', '4', '.', 'T', 'r', 'e', 'e', 's', 'H', 'a', 's', 'h', ' ', 's', 'p', 'e', 'c', 'u', 'l', 'u', 'm', '/', 's', 'p', 'e', 'c', 'u', 'l', 'u', 'm', 'l', 'a', 'w', '0', '6', '.', 'P', 'a', 't', 'h', 's', 'P', 'a', 't', 'h', ' ', 's', 'p', 'e', 'c', 'u', 'l', 'u', 'm', '/', 's', 'p', 'e', 'c', 'u', 'l', 'u', 'm', 'l', 'a', 'w', '3', '2', '.', 'E', 'v', 'i', 'd', 'e', 'n', 'c', 'e', 'F', 'o', 'u', 'n', 'd', ' ', 's', 'p', 'e', 'c', 'u', 'l', 'u', 'm', '/', 's', 'p', 'e', 'c', 'u', 'l', 'u', 'm', 'l', 'a', 'w', '0', '6', '.', 'P', 'a', 't', 'h', 's', 'C', 'h', 'e', 'c', 'k', ' ', 's', 'p', 'e', 'c', 'u', 'l', 'u', 'm', '/', 's', 'p', 'e', 'c', 'u', 'l', 'u', 'm', 'l', 'a', 'w', '0', '6', '.', 'P', 'a', 't', 'h', 's', 'B', 'a', 'c', 'k', ' ', 's', 'p', 'e', 'c', 'u', 'l', 'u', 'm', '/', 's', 'p', 'e', 'c', 'u', 'l', 'u', 'm', 'l', 'a', 'w', '0', '8', '.', 'L', 'a', 'm', 'p', 'o', 'r', 't', 'S', 'i', 'g', 'n', ' ', 's', 'p', 'e', 'c', 'u', 'l', 'u', 'm', '/', 's', 'p', 'e', 'c', 'u', 'l', 'u', 'm', 'l', 'a', 'w', '0', '8', '.', 'L', 'a', 'm', 'p', 'o', 'r', 't', 'P', 'u', 'b', 'l', 'i', 'c', ' ', 's', 'p', 'e', 'c', 'u', 'l', 'u', 'm', '/', 's', 'p', 'e', 'c', 'u', 'l', 'u', 'm', 'l', 'a', 'w', '0', '8', '.', 'L', 'a', 'm', 'p', 'o', 'r', 't', 'B', 'y', 't', 'e', 's', ' ', 's', 'p', 'e', 'c', 'u', 'l', 'u', 'm', '/', 's', 'p', 'e', 'c', 'u', 'l', 'u', 'm', 'l', 'a', 'w', '1', '0', '.', 'H', 'e', 'a', 'd', 's', 'G', 'e', 't', ' ', 's', 'p', 'e', 'c', 'u', 'l', 'u', 'm', '/', 's', 'p', 'e', 'c', 'u', 'l', 'u', 'm', 'l', 'a', 'w', '1', '0', '.', 'H', 'e', 'a', 'd', 's', 'B', 'a', 'c', 'k', ' ', 's', 'p', 'e', 'c', 'u', 'l', 'u', 'm', '/', 's', 'p', 'e', 'c', 'u', 'l', 'u', 'm', 'l', 'a', 'w', '0', '9', '.', 'K', 'e', 'y', 't', 'r', 'e', 'e', 'S', 'i', 'g', 'n', ' ', 's', 'p', 'e', 'c', 'u', 'l', 'u', 'm', '/', 's', 'p', 'e', 'c', 'u', 'l', 'u', 'm', 'l', 'a', 'w', '0', '9', '.', 'K', 'e', 'y', 't', 'r', 'e', 'e', 'V', 'e', 'r', 'i', 'f', 'y', ' ', 's', 'p', 'e', 'c', 'u', 'l', 'u', 'm', '/', 's', 'p', 'e', 'c', 'u', 'l', 'u', 'm', 'l', 'a', 'w', '0', '9', '.', 'K', 'e', 'y', 't', 'r', 'e', 'e', 'N', 'o', 'n', 'e', ' ', 's', 'p', 'e', 'c', 'u', 'l', 'u', 'm', '/', 's', 'p', 'e', 'c', 'u', 'l', 'u', 'm', 'l', 'a', 'w', '1', '0', '.', 'H', 'e', 'a', 'd', 's', 'T', 'e', 'l', 'l', ' ', 's', 'p', 'e', 'c', 'u', 'l', 'u', 'm', '/', 's', 'p', 'e', 'c', 'u', 'l', 'u', 'm', 'l', 'a', 'w', '3', '3', '.', 'A', 'u', 'd', 'i', 't', 'N', 'o', 'n', 'e', ' ', 's', 'p', 'e', 'c', 'u', 'l', 'u', 'm', '/', 's', 'p', 'e', 'c', 'u', 'l', 'u', 'm', 'l', 'a', 'w', '3', '2', '.', 'E', 'v', 'i', 'd', 'e', 'n', 'c', 'e', 'C', 'h', 'e', 'c', 'k', ' ', 's', 'p', 'e', 'c', 'u', 'l', 'u', 'm', '/', 's', 'p', 'e', 'c', 'u', 'l', 'u', 'm', 'l', 'a', 'w', '3', '2', '.', 'E', 'v', 'i', 'd', 'e', 'n', 'c', 'e', 'F', 'i', 'n', 'd']
theorem io0 : Tryd.prog.initOrder = "harness 0beb821250e88f5a6c3e8976768e649b41c34bcd0bd547178d362117b6db275a cut at speculum/speculumlaw04.TreesRoot speculum/speculumlaw04.TreesHalves speculum/speculumlaw32.EvidenceBack speculum/speculumlaw04.TreesHash speculum/speculumlaw06.PathsPath speculum/speculumlaw32.EvidenceFound speculum/speculumlaw06.PathsCheck speculum/speculumlaw06.PathsBack speculum/speculumlaw08.LamportSign speculum/speculumlaw08.LamportPublic speculum/speculumlaw08.LamportBytes speculum/speculumlaw10.HeadsGet speculum/speculumlaw10.HeadsBack speculum/speculumlaw09.KeytreeSign speculum/speculumlaw09.KeytreeVerify speculum/speculumlaw09.KeytreeNone speculum/speculumlaw10.HeadsTell speculum/speculumlaw33.AuditNone speculum/speculumlaw32.EvidenceCheck speculum/speculumlaw32.EvidenceFind" := by kernel_rfl
theorem io : Tryd.prog.initOrder.toList = ioL := by rw [io0, show ("harness 0beb821250e88f5a6c3e8976768e649b41c34bcd0bd547178d362117b6db275a cut at speculum/speculumlaw04.TreesRoot speculum/speculumlaw04.TreesHalves speculum/speculumlaw32.EvidenceBack speculum/speculumlaw04.TreesHash speculum/speculumlaw06.PathsPath speculum/speculumlaw32.EvidenceFound speculum/speculumlaw06.PathsCheck speculum/speculumlaw06.PathsBack speculum/speculumlaw08.LamportSign speculum/speculumlaw08.LamportPublic speculum/speculumlaw08.LamportBytes speculum/speculumlaw10.HeadsGet speculum/speculumlaw10.HeadsBack speculum/speculumlaw09.KeytreeSign speculum/speculumlaw09.KeytreeVerify speculum/speculumlaw09.KeytreeNone speculum/speculumlaw10.HeadsTell speculum/speculumlaw33.AuditNone speculum/speculumlaw32.EvidenceCheck speculum/speculumlaw32.EvidenceFind" : String) = String.ofList ioL from rfl, String.toList_ofList]
def wsL : List (List Char) := [['c', 'u', 't'], ['a', 't'], ['s', 'p', 'e', 'c', 'u', 'l', 'u', 'm', '/', 's', 'p', 'e', 'c', 'u', 'l', 'u', 'm', 'l', 'a', 'w', '0', '4', '.', 'T', 'r', 'e', 'e', 's', 'R', 'o', 'o', 't'], ['s', 'p', 'e', 'c', 'u', 'l', 'u', 'm', '/', 's', 'p', 'e', 'c', 'u', 'l', 'u', 'm', 'l', 'a', 'w', '0', '4', '.', 'T', 'r', 'e', 'e', 's', 'H', 'a', 'l', 'v', 'e', 's'], ['s', 'p', 'e', 'c', 'u', 'l', 'u', 'm', '/', 's', 'p', 'e', 'c', 'u', 'l', 'u', 'm', 'l', 'a', 'w', '3', '2', '.', 'E', 'v', 'i', 'd', 'e', 'n', 'c', 'e', 'B', 'a', 'c', 'k'], ['s', 'p', 'e', 'c', 'u', 'l', 'u', 'm', '/', 's', 'p', 'e', 'c', 'u', 'l', 'u', 'm', 'l', 'a', 'w', '0', '4', '.', 'T', 'r', 'e', 'e', 's', 'H', 'a', 's', 'h'], ['s', 'p', 'e', 'c', 'u', 'l', 'u', 'm', '/', 's', 'p', 'e', 'c', 'u', 'l', 'u', 'm', 'l', 'a', 'w', '0', '6', '.', 'P', 'a', 't', 'h', 's', 'P', 'a', 't', 'h'], ['s', 'p', 'e', 'c', 'u', 'l', 'u', 'm', '/', 's', 'p', 'e', 'c', 'u', 'l', 'u', 'm', 'l', 'a', 'w', '3', '2', '.', 'E', 'v', 'i', 'd', 'e', 'n', 'c', 'e', 'F', 'o', 'u', 'n', 'd'], ['s', 'p', 'e', 'c', 'u', 'l', 'u', 'm', '/', 's', 'p', 'e', 'c', 'u', 'l', 'u', 'm', 'l', 'a', 'w', '0', '6', '.', 'P', 'a', 't', 'h', 's', 'C', 'h', 'e', 'c', 'k'], ['s', 'p', 'e', 'c', 'u', 'l', 'u', 'm', '/', 's', 'p', 'e', 'c', 'u', 'l', 'u', 'm', 'l', 'a', 'w', '0', '6', '.', 'P', 'a', 't', 'h', 's', 'B', 'a', 'c', 'k'], ['s', 'p', 'e', 'c', 'u', 'l', 'u', 'm', '/', 's', 'p', 'e', 'c', 'u', 'l', 'u', 'm', 'l', 'a', 'w', '0', '8', '.', 'L', 'a', 'm', 'p', 'o', 'r', 't', 'S', 'i', 'g', 'n'], ['s', 'p', 'e', 'c', 'u', 'l', 'u', 'm', '/', 's', 'p', 'e', 'c', 'u', 'l', 'u', 'm', 'l', 'a', 'w', '0', '8', '.', 'L', 'a', 'm', 'p', 'o', 'r', 't', 'P', 'u', 'b', 'l', 'i', 'c'], ['s', 'p', 'e', 'c', 'u', 'l', 'u', 'm', '/', 's', 'p', 'e', 'c', 'u', 'l', 'u', 'm', 'l', 'a', 'w', '0', '8', '.', 'L', 'a', 'm', 'p', 'o', 'r', 't', 'B', 'y', 't', 'e', 's'], ['s', 'p', 'e', 'c', 'u', 'l', 'u', 'm', '/', 's', 'p', 'e', 'c', 'u', 'l', 'u', 'm', 'l', 'a', 'w', '1', '0', '.', 'H', 'e', 'a', 'd', 's', 'G', 'e', 't'], ['s', 'p', 'e', 'c', 'u', 'l', 'u', 'm', '/', 's', 'p', 'e', 'c', 'u', 'l', 'u', 'm', 'l', 'a', 'w', '1', '0', '.', 'H', 'e', 'a', 'd', 's', 'B', 'a', 'c', 'k'], ['s', 'p', 'e', 'c', 'u', 'l', 'u', 'm', '/', 's', 'p', 'e', 'c', 'u', 'l', 'u', 'm', 'l', 'a', 'w', '0', '9', '.', 'K', 'e', 'y', 't', 'r', 'e', 'e', 'S', 'i', 'g', 'n'], ['s', 'p', 'e', 'c', 'u', 'l', 'u', 'm', '/', 's', 'p', 'e', 'c', 'u', 'l', 'u', 'm', 'l', 'a', 'w', '0', '9', '.', 'K', 'e', 'y', 't', 'r', 'e', 'e', 'V', 'e', 'r', 'i', 'f', 'y'], ['s', 'p', 'e', 'c', 'u', 'l', 'u', 'm', '/', 's', 'p', 'e', 'c', 'u', 'l', 'u', 'm', 'l', 'a', 'w', '0', '9', '.', 'K', 'e', 'y', 't', 'r', 'e', 'e', 'N', 'o', 'n', 'e'], ['s', 'p', 'e', 'c', 'u', 'l', 'u', 'm', '/', 's', 'p', 'e', 'c', 'u', 'l', 'u', 'm', 'l', 'a', 'w', '1', '0', '.', 'H', 'e', 'a', 'd', 's', 'T', 'e', 'l', 'l'], ['s', 'p', 'e', 'c', 'u', 'l', 'u', 'm', '/', 's', 'p', 'e', 'c', 'u', 'l', 'u', 'm', 'l', 'a', 'w', '3', '3', '.', 'A', 'u', 'd', 'i', 't', 'N', 'o', 'n', 'e'], ['s', 'p', 'e', 'c', 'u', 'l', 'u', 'm', '/', 's', 'p', 'e', 'c', 'u', 'l', 'u', 'm', 'l', 'a', 'w', '3', '2', '.', 'E', 'v', 'i', 'd', 'e', 'n', 'c', 'e', 'C', 'h', 'e', 'c', 'k'], ['s', 'p', 'e', 'c', 'u', 'l', 'u', 'm', '/', 's', 'p', 'e', 'c', 'u', 'l', 'u', 'm', 'l', 'a', 'w', '3', '2', '.', 'E', 'v', 'i', 'd', 'e', 'n', 'c', 'e', 'F', 'i', 'n', 'd']]
theorem ws0 : wordsSigns ioL = [['h', 'a', 'r', 'n', 'e', 's', 's'], ['0', 'b', 'e', 'b', '8', '2', '1', '2', '5', '0', 'e', '8', '8', 'f', '5', 'a', '6', 'c', '3', 'e', '8', '9', '7', '6', '7', '6', '8', 'e', '6', '4', '9', 'b', '4', '1', 'c', '3', '4', 'b', 'c', 'd', '0', 'b', 'd', '5', '4', '7', '1', '7', '8', 'd', '3', '6', '2', '1', '1', '7', 'b', '6', 'd', 'b', '2', '7', '5', 'a'], ['c', 'u', 't'], ['a', 't'], ['s', 'p', 'e', 'c', 'u', 'l', 'u', 'm', '/', 's', 'p', 'e', 'c', 'u', 'l', 'u', 'm', 'l', 'a', 'w', '0', '4', '.', 'T', 'r', 'e', 'e', 's', 'R', 'o', 'o', 't'], ['s', 'p', 'e', 'c', 'u', 'l', 'u', 'm', '/', 's', 'p', 'e', 'c', 'u', 'l', 'u', 'm', 'l', 'a', 'w', '0', '4', '.', 'T', 'r', 'e', 'e', 's', 'H', 'a', 'l', 'v', 'e', 's'], ['s', 'p', 'e', 'c', 'u', 'l', 'u', 'm', '/', 's', 'p', 'e', 'c', 'u', 'l', 'u', 'm', 'l', 'a', 'w', '3', '2', '.', 'E', 'v', 'i', 'd', 'e', 'n', 'c', 'e', 'B', 'a', 'c', 'k'], ['s', 'p', 'e', 'c', 'u', 'l', 'u', 'm', '/', 's', 'p', 'e', 'c', 'u', 'l', 'u', 'm', 'l', 'a', 'w', '0', '4', '.', 'T', 'r', 'e', 'e', 's', 'H', 'a', 's', 'h'], ['s', 'p', 'e', 'c', 'u', 'l', 'u', 'm', '/', 's', 'p', 'e', 'c', 'u', 'l', 'u', 'm', 'l', 'a', 'w', '0', '6', '.', 'P', 'a', 't', 'h', 's', 'P', 'a', 't', 'h'], ['s', 'p', 'e', 'c', 'u', 'l', 'u', 'm', '/', 's', 'p', 'e', 'c', 'u', 'l', 'u', 'm', 'l', 'a', 'w', '3', '2', '.', 'E', 'v', 'i', 'd', 'e', 'n', 'c', 'e', 'F', 'o', 'u', 'n', 'd'], ['s', 'p', 'e', 'c', 'u', 'l', 'u', 'm', '/', 's', 'p', 'e', 'c', 'u', 'l', 'u', 'm', 'l', 'a', 'w', '0', '6', '.', 'P', 'a', 't', 'h', 's', 'C', 'h', 'e', 'c', 'k'], ['s', 'p', 'e', 'c', 'u', 'l', 'u', 'm', '/', 's', 'p', 'e', 'c', 'u', 'l', 'u', 'm', 'l', 'a', 'w', '0', '6', '.', 'P', 'a', 't', 'h', 's', 'B', 'a', 'c', 'k'], ['s', 'p', 'e', 'c', 'u', 'l', 'u', 'm', '/', 's', 'p', 'e', 'c', 'u', 'l', 'u', 'm', 'l', 'a', 'w', '0', '8', '.', 'L', 'a', 'm', 'p', 'o', 'r', 't', 'S', 'i', 'g', 'n'], ['s', 'p', 'e', 'c', 'u', 'l', 'u', 'm', '/', 's', 'p', 'e', 'c', 'u', 'l', 'u', 'm', 'l', 'a', 'w', '0', '8', '.', 'L', 'a', 'm', 'p', 'o', 'r', 't', 'P', 'u', 'b', 'l', 'i', 'c'], ['s', 'p', 'e', 'c', 'u', 'l', 'u', 'm', '/', 's', 'p', 'e', 'c', 'u', 'l', 'u', 'm', 'l', 'a', 'w', '0', '8', '.', 'L', 'a', 'm', 'p', 'o', 'r', 't', 'B', 'y', 't', 'e', 's'], ['s', 'p', 'e', 'c', 'u', 'l', 'u', 'm', '/', 's', 'p', 'e', 'c', 'u', 'l', 'u', 'm', 'l', 'a', 'w', '1', '0', '.', 'H', 'e', 'a', 'd', 's', 'G', 'e', 't'], ['s', 'p', 'e', 'c', 'u', 'l', 'u', 'm', '/', 's', 'p', 'e', 'c', 'u', 'l', 'u', 'm', 'l', 'a', 'w', '1', '0', '.', 'H', 'e', 'a', 'd', 's', 'B', 'a', 'c', 'k'], ['s', 'p', 'e', 'c', 'u', 'l', 'u', 'm', '/', 's', 'p', 'e', 'c', 'u', 'l', 'u', 'm', 'l', 'a', 'w', '0', '9', '.', 'K', 'e', 'y', 't', 'r', 'e', 'e', 'S', 'i', 'g', 'n'], ['s', 'p', 'e', 'c', 'u', 'l', 'u', 'm', '/', 's', 'p', 'e', 'c', 'u', 'l', 'u', 'm', 'l', 'a', 'w', '0', '9', '.', 'K', 'e', 'y', 't', 'r', 'e', 'e', 'V', 'e', 'r', 'i', 'f', 'y'], ['s', 'p', 'e', 'c', 'u', 'l', 'u', 'm', '/', 's', 'p', 'e', 'c', 'u', 'l', 'u', 'm', 'l', 'a', 'w', '0', '9', '.', 'K', 'e', 'y', 't', 'r', 'e', 'e', 'N', 'o', 'n', 'e'], ['s', 'p', 'e', 'c', 'u', 'l', 'u', 'm', '/', 's', 'p', 'e', 'c', 'u', 'l', 'u', 'm', 'l', 'a', 'w', '1', '0', '.', 'H', 'e', 'a', 'd', 's', 'T', 'e', 'l', 'l'], ['s', 'p', 'e', 'c', 'u', 'l', 'u', 'm', '/', 's', 'p', 'e', 'c', 'u', 'l', 'u', 'm', 'l', 'a', 'w', '3', '3', '.', 'A', 'u', 'd', 'i', 't', 'N', 'o', 'n', 'e'], ['s', 'p', 'e', 'c', 'u', 'l', 'u', 'm', '/', 's', 'p', 'e', 'c', 'u', 'l', 'u', 'm', 'l', 'a', 'w', '3', '2', '.', 'E', 'v', 'i', 'd', 'e', 'n', 'c', 'e', 'C', 'h', 'e', 'c', 'k'], ['s', 'p', 'e', 'c', 'u', 'l', 'u', 'm', '/', 's', 'p', 'e', 'c', 'u', 'l', 'u', 'm', 'l', 'a', 'w', '3', '2', '.', 'E', 'v', 'i', 'd', 'e', 'n', 'c', 'e', 'F', 'i', 'n', 'd']] := by kernel_rfl
theorem ws : behindMainWord (wordsSigns ioL) = wsL := by rw [ws0]; kernel_rfl
theorem mayEnter_of (P : Program) (h : behindMainWord (wordsSigns P.initOrder.toList) = wsL) (h1 : P.laysLater = false) (h2 : P.bearsReflect = false) (h3 : P.doorFits [] = true) : P.mayEnter = true := by
  have e : stripLifts liftWords wsL = ([], wsL) := by kernel_rfl
  unfold Program.mayEnter
  rw [h]
  unfold wsL at e ⊢
  simp only [e, h1, h2, h3]
  exact of_decide_eq_true (by kernel_rfl)
theorem make_of (P : Program) (h : behindMainWord (wordsSigns P.initOrder.toList) = wsL) : P.make = some .cut := by
  unfold Program.make
  rw [h]
  kernel_rfl
theorem mainIs_of (P : Program) (h : wordsSigns P.initOrder.toList = [['h', 'a', 'r', 'n', 'e', 's', 's'], ['0', 'b', 'e', 'b', '8', '2', '1', '2', '5', '0', 'e', '8', '8', 'f', '5', 'a', '6', 'c', '3', 'e', '8', '9', '7', '6', '7', '6', '8', 'e', '6', '4', '9', 'b', '4', '1', 'c', '3', '4', 'b', 'c', 'd', '0', 'b', 'd', '5', '4', '7', '1', '7', '8', 'd', '3', '6', '2', '1', '1', '7', 'b', '6', 'd', 'b', '2', '7', '5', 'a'], ['c', 'u', 't'], ['a', 't'], ['s', 'p', 'e', 'c', 'u', 'l', 'u', 'm', '/', 's', 'p', 'e', 'c', 'u', 'l', 'u', 'm', 'l', 'a', 'w', '0', '4', '.', 'T', 'r', 'e', 'e', 's', 'R', 'o', 'o', 't'], ['s', 'p', 'e', 'c', 'u', 'l', 'u', 'm', '/', 's', 'p', 'e', 'c', 'u', 'l', 'u', 'm', 'l', 'a', 'w', '0', '4', '.', 'T', 'r', 'e', 'e', 's', 'H', 'a', 'l', 'v', 'e', 's'], ['s', 'p', 'e', 'c', 'u', 'l', 'u', 'm', '/', 's', 'p', 'e', 'c', 'u', 'l', 'u', 'm', 'l', 'a', 'w', '3', '2', '.', 'E', 'v', 'i', 'd', 'e', 'n', 'c', 'e', 'B', 'a', 'c', 'k'], ['s', 'p', 'e', 'c', 'u', 'l', 'u', 'm', '/', 's', 'p', 'e', 'c', 'u', 'l', 'u', 'm', 'l', 'a', 'w', '0', '4', '.', 'T', 'r', 'e', 'e', 's', 'H', 'a', 's', 'h'], ['s', 'p', 'e', 'c', 'u', 'l', 'u', 'm', '/', 's', 'p', 'e', 'c', 'u', 'l', 'u', 'm', 'l', 'a', 'w', '0', '6', '.', 'P', 'a', 't', 'h', 's', 'P', 'a', 't', 'h'], ['s', 'p', 'e', 'c', 'u', 'l', 'u', 'm', '/', 's', 'p', 'e', 'c', 'u', 'l', 'u', 'm', 'l', 'a', 'w', '3', '2', '.', 'E', 'v', 'i', 'd', 'e', 'n', 'c', 'e', 'F', 'o', 'u', 'n', 'd'], ['s', 'p', 'e', 'c', 'u', 'l', 'u', 'm', '/', 's', 'p', 'e', 'c', 'u', 'l', 'u', 'm', 'l', 'a', 'w', '0', '6', '.', 'P', 'a', 't', 'h', 's', 'C', 'h', 'e', 'c', 'k'], ['s', 'p', 'e', 'c', 'u', 'l', 'u', 'm', '/', 's', 'p', 'e', 'c', 'u', 'l', 'u', 'm', 'l', 'a', 'w', '0', '6', '.', 'P', 'a', 't', 'h', 's', 'B', 'a', 'c', 'k'], ['s', 'p', 'e', 'c', 'u', 'l', 'u', 'm', '/', 's', 'p', 'e', 'c', 'u', 'l', 'u', 'm', 'l', 'a', 'w', '0', '8', '.', 'L', 'a', 'm', 'p', 'o', 'r', 't', 'S', 'i', 'g', 'n'], ['s', 'p', 'e', 'c', 'u', 'l', 'u', 'm', '/', 's', 'p', 'e', 'c', 'u', 'l', 'u', 'm', 'l', 'a', 'w', '0', '8', '.', 'L', 'a', 'm', 'p', 'o', 'r', 't', 'P', 'u', 'b', 'l', 'i', 'c'], ['s', 'p', 'e', 'c', 'u', 'l', 'u', 'm', '/', 's', 'p', 'e', 'c', 'u', 'l', 'u', 'm', 'l', 'a', 'w', '0', '8', '.', 'L', 'a', 'm', 'p', 'o', 'r', 't', 'B', 'y', 't', 'e', 's'], ['s', 'p', 'e', 'c', 'u', 'l', 'u', 'm', '/', 's', 'p', 'e', 'c', 'u', 'l', 'u', 'm', 'l', 'a', 'w', '1', '0', '.', 'H', 'e', 'a', 'd', 's', 'G', 'e', 't'], ['s', 'p', 'e', 'c', 'u', 'l', 'u', 'm', '/', 's', 'p', 'e', 'c', 'u', 'l', 'u', 'm', 'l', 'a', 'w', '1', '0', '.', 'H', 'e', 'a', 'd', 's', 'B', 'a', 'c', 'k'], ['s', 'p', 'e', 'c', 'u', 'l', 'u', 'm', '/', 's', 'p', 'e', 'c', 'u', 'l', 'u', 'm', 'l', 'a', 'w', '0', '9', '.', 'K', 'e', 'y', 't', 'r', 'e', 'e', 'S', 'i', 'g', 'n'], ['s', 'p', 'e', 'c', 'u', 'l', 'u', 'm', '/', 's', 'p', 'e', 'c', 'u', 'l', 'u', 'm', 'l', 'a', 'w', '0', '9', '.', 'K', 'e', 'y', 't', 'r', 'e', 'e', 'V', 'e', 'r', 'i', 'f', 'y'], ['s', 'p', 'e', 'c', 'u', 'l', 'u', 'm', '/', 's', 'p', 'e', 'c', 'u', 'l', 'u', 'm', 'l', 'a', 'w', '0', '9', '.', 'K', 'e', 'y', 't', 'r', 'e', 'e', 'N', 'o', 'n', 'e'], ['s', 'p', 'e', 'c', 'u', 'l', 'u', 'm', '/', 's', 'p', 'e', 'c', 'u', 'l', 'u', 'm', 'l', 'a', 'w', '1', '0', '.', 'H', 'e', 'a', 'd', 's', 'T', 'e', 'l', 'l'], ['s', 'p', 'e', 'c', 'u', 'l', 'u', 'm', '/', 's', 'p', 'e', 'c', 'u', 'l', 'u', 'm', 'l', 'a', 'w', '3', '3', '.', 'A', 'u', 'd', 'i', 't', 'N', 'o', 'n', 'e'], ['s', 'p', 'e', 'c', 'u', 'l', 'u', 'm', '/', 's', 'p', 'e', 'c', 'u', 'l', 'u', 'm', 'l', 'a', 'w', '3', '2', '.', 'E', 'v', 'i', 'd', 'e', 'n', 'c', 'e', 'C', 'h', 'e', 'c', 'k'], ['s', 'p', 'e', 'c', 'u', 'l', 'u', 'm', '/', 's', 'p', 'e', 'c', 'u', 'l', 'u', 'm', 'l', 'a', 'w', '3', '2', '.', 'E', 'v', 'i', 'd', 'e', 'n', 'c', 'e', 'F', 'i', 'n', 'd']]) : P.mainIs = some (true, "0beb821250e88f5a6c3e8976768e649b41c34bcd0bd547178d362117b6db275a".toList) := by
  unfold Program.mainIs
  rw [h]
  kernel_rfl
theorem wsT : behindMainWord (wordsSigns Tryd.prog.initOrder.toList) = wsL := by rw [io]; exact ws
theorem j_lays : Tryd.prog.laysLater = false := by kernel_rfl
theorem j_refl : Tryd.prog.bearsReflect = false := by kernel_rfl
theorem j_door : Tryd.prog.doorFits [] = true := by kernel_rfl
theorem j_mayEnter : Tryd.prog.mayEnter = true := mayEnter_of _ wsT j_lays j_refl j_door
theorem j_make : Tryd.prog.make = some .cut := make_of _ wsT
theorem j_mainIs : Tryd.prog.mainIs = some (true, "0beb821250e88f5a6c3e8976768e649b41c34bcd0bd547178d362117b6db275a".toList) := mainIs_of _ (by rw [io]; exact ws0)
theorem lifts_of (P : Program) (h : behindMainWord (wordsSigns P.initOrder.toList) = wsL) : P.liftsFinal = false := by
  unfold Program.liftsFinal Program.headLifts
  rw [h]
  kernel_rfl
theorem j_lifted : Tryd.prog.liftsFinal = false := lifts_of _ wsT
theorem j_keys : (Rows.treesRootRow.plainKeys == Tryd.prog.plainKeys) = true := by kernel_rfl
theorem j_heard : Tryd.prog.stopsHeard = true := by kernel_rfl
theorem j_mapsRowed : mapsRowed Tryd.prog = true := by kernel_rfl
theorem j_stops : (Tryd.prog.stops == []) = true := by kernel_rfl
theorem j_knobs : (Tryd.prog.stopKnobs == []) = true := by kernel_rfl
theorem j_looks : false = Tryd.prog.looks [] := by kernel_rfl
theorem closed_of {f : FuncId} {fn : Func} {s : ChangeSpec} {c : OpenClaim} (h1 : c.wf (OpenSpec.ofChange s) = true) (h2 : fn.params.all (Tryd.prog.readableRec ·) = true) (h3 : namedTie Tryd.prog c.named s.vars = true) (h4 : (c.stops == []) = true) (h5 : (c.knobs == []) = true)
    (h6 : (c.inPlace == Tryd.prog.inPlace f) = true) (h7 : (c.unfollowed == Tryd.prog.unfollowed f) = true) (h8 : (c.recurses == Tryd.prog.recurses f) = true) (h9 : (c.named == Tryd.prog.varsNamed f) = true)
    (h10 : (c.maps == (fn.params.toList ++ s.plain.varTypes Tryd.prog).any (Tryd.prog.mapsRec ·)) = true) (h11 : (c.ifaces == (fn.params.toList ++ s.plain.varTypes Tryd.prog).any (Tryd.prog.ifacesRec ·)) = true) (h12 : (c.mapsOut == Tryd.prog.mapsAmong fn.resultTypes.toList) = true)
    (h13 : (c.loops == (fn.params.toList ++ s.plain.varTypes Tryd.prog).any (Tryd.prog.loopsFrom ·)) = true) (h14 : (c.wideKeys == (fn.params.toList ++ s.plain.varTypes Tryd.prog ++ fn.resultTypes.toList).any (Tryd.prog.wideKeysFrom ·)) = true)
    (h15 : s.vars.all (Tryd.prog.varReadable ·) = true) (h16 : fn.resultTypes.all (fun t => Tryd.prog.readableRec t && decide (t < Tryd.prog.types.size)) = true) (h17 : (c.ifacesOut == fn.resultTypes.toList.any (Tryd.prog.ifacesRec ·)) = true) (h18 : (c.loopsOut == fn.resultTypes.toList.any (Tryd.prog.loopsFrom ·)) = true)
    (h19 : c.plainKeys = Rows.treesRootRow.plainKeys) (h20 : c.shortTexts.isNone = true) (h21 : c.lifted = false) (h22 : c.make = .cut) (h23 : (c.kinds == (if c.domain.isEmpty then [] else fn.params.toList.map fun t => match Tryd.prog.underlying t with | some (.int k) => some k | _ => none)) = true) (h24 : (c.pinned == c.pinnedBy) = true)
    (h25 : (c.veiled == (fn.params.toList ++ s.plain.varTypes Tryd.prog ++ fn.resultTypes.toList).any (Tryd.prog.veiledRec ·)) = true) (h26 : c.veiledFits Tryd.prog fn.params.toList (fn.params.toList ++ s.plain.varTypes Tryd.prog ++ fn.resultTypes.toList) = true) :
    joinedFacts Tryd.prog f fn s c = true := by
  have hk : (c.plainKeys == Tryd.prog.plainKeys) = true := by rw [h19]; exact j_keys
  have hl : (c.lifted == Tryd.prog.liftsFinal) = true := by rw [h21, j_lifted]; rfl
  have hm : (Tryd.prog.make == some c.make) = true := by rw [h22, j_make]; rfl
  unfold joinedFacts
  rw [Bool.and_eq_true, Bool.and_eq_true, Bool.and_eq_true, Bool.and_eq_true, Bool.and_eq_true, Bool.and_eq_true, Bool.and_eq_true, Bool.and_eq_true, Bool.and_eq_true, Bool.and_eq_true, Bool.and_eq_true, Bool.and_eq_true, Bool.and_eq_true, Bool.and_eq_true, Bool.and_eq_true, Bool.and_eq_true, Bool.and_eq_true, Bool.and_eq_true, Bool.and_eq_true, Bool.and_eq_true, Bool.and_eq_true, Bool.and_eq_true, Bool.and_eq_true, Bool.and_eq_true, Bool.and_eq_true, Bool.and_eq_true, Bool.and_eq_true, Bool.and_eq_true, Bool.and_eq_true, Bool.and_eq_true, Bool.and_eq_true]
  exact ⟨⟨⟨⟨⟨⟨⟨⟨⟨⟨⟨⟨⟨⟨⟨⟨⟨⟨⟨⟨⟨⟨⟨⟨⟨⟨⟨⟨⟨⟨⟨h1, laidOut⟩, j_mapsRowed⟩, h2⟩, h3⟩, h4⟩, j_stops⟩, h5⟩, j_knobs⟩, h6⟩, h7⟩, h8⟩, h9⟩, h10⟩, h11⟩, h12⟩, h13⟩, h14⟩, h15⟩, h16⟩, h17⟩, h18⟩, hk⟩, h20⟩, j_heard⟩, j_mayEnter⟩, hl⟩, hm⟩, h23⟩, h24⟩, h25⟩, h26⟩
end Go.Proofs.YtahdekllphehkaaDoor
namespace Go.Proofs.YtahdekllphehkaaDoor
open Go.ChangeShapes Go.WideShapes Go.ChangeAt Go.RowKit Go.WL Go.Spec
section
variable {H : Type} {enc : TypeId × Value → H} {P : Program} {W : World} {base b0 : Nat} {sp : Nat → Bool} {hd : Bool} {r : Reach} {t e u : TypeId} {v : Value} {d : DataW H} {ps : List MemPlace}
theorem int_of {k : IntKind} (ht : P.underlying t = some (.int k)) (hval : Value.okWide P W r b0 t v) (h : DataW.Trod enc P W base sp hd t v d ps) : ∃ n : Int, v = .int k n ∧ (Lit.int k n).wf = true := by
  obtain ⟨m, hm⟩ := h
  obtain ⟨n, hn, _, hwf⟩ := DataW.trod_int ht hm
  refine ⟨n, ?_, hwf⟩
  simp only [Value.okWide, ht, Cell.okWide] at hval
  cases v <;> simp_all [Cell.ok, Value.cells]
theorem str_of (ht : P.underlying t = some .string) (hval : Value.okWide P W r b0 t v) (h : DataW.Trod enc P W base sp hd t v d ps) : ∃ l : Bytes, v = .string (bs l) ∧ l.length ≤ maxLen := by
  obtain ⟨s, rfl, _, _, hs⟩ := Go.ChangeMaps.open_string ht hval h
  exact ⟨s.data.toList, by rw [bs_of], hs⟩
end
end Go.Proofs.YtahdekllphehkaaDoor
namespace Go.Proofs.YtahdekllphehkaaDoor
open Go.ChangeShapes Go.WideShapes Go.ChangeAt Go.RowKit Go.WL Go.Spec
section
variable {H : Type} {enc : TypeId × Value → H} {P : Program} {W : World} {base b0 : Nat} {sp : Nat → Bool} {hd : Bool} {r : Reach} {t e u : TypeId} {v : Value} {d : DataW H} {ps : List MemPlace}
theorem part_of {fs : Array Field} {f : Field} {m i : Nat} {cs : List Value} {x : DataW H × List MemPlace} (ht : P.underlying t = some (.struct fs)) (h : DataW.trod enc P W base sp hd m t cs = some x) (hf : fs[i]? = some f) :
    ∃ m' y, DataW.trod enc P W base sp hd m' f.type ((cs.drop f.offset).take (P.cellsOf f.type)) = some y := by
  obtain ⟨xs, m', _, _, _, hl, hat⟩ := DataW.trod_struct ht h
  have hi : i < xs.length := by
    rw [hl]
    rcases Nat.lt_or_ge i fs.size with h1 | h1
    · exact h1
    · rw [Array.getElem?_eq_none h1] at hf; cases hf
  exact ⟨m', xs[i], by rw [hat i f hf, List.getElem?_eq_getElem hi]⟩
theorem part_at {fs : Array Field} {m i : Nat} {cs : List Value} {x : DataW H × List MemPlace} (ht : P.underlying t = some (.struct fs)) (h : DataW.trod enc P W base sp hd m t cs = some x) (off : Nat) (T : TypeId) (k : Nat) (hf : (fs[i]?).map (fun f => (f.offset, f.type)) = some (off, T)) (hk : P.cellsOf T = k) :
    ∃ m' y, DataW.trod enc P W base sp hd m' T ((cs.drop off).take k) = some y := by
  obtain ⟨f, hf1, hf2⟩ := Option.map_eq_some_iff.1 hf
  obtain ⟨m', y, hy⟩ := part_of ht h hf1
  simp only [Prod.mk.injEq] at hf2
  obtain ⟨rfl, rfl⟩ := hf2
  exact ⟨m', y, by rw [← hk]; exact hy⟩
theorem struct_length {fs : Array Field} {m : Nat} {cs : List Value} {x : DataW H × List MemPlace} (ht : P.underlying t = some (.struct fs)) (h : DataW.trod enc P W base sp hd m t cs = some x) : cs.length = P.cellsOf t := by
  obtain ⟨_, _, _, _, hl, _⟩ := DataW.trod_struct ht h
  exact hl
theorem struct_of {fs : Array Field} (ht : P.underlying t = some (.struct fs)) (hval : Value.okWide P W r b0 t v) : ∃ cs : List Value, v = .agg cs.toArray := by
  unfold Value.okWide at hval
  rw [ht] at hval
  obtain ⟨cs, rfl, _⟩ := hval
  exact ⟨cs.toList, by simp⟩
theorem array_of {k : Nat} (ht : P.underlying t = some (.array k e)) (hval : Value.okWide P W r b0 t v) : ∃ cs : List Value, v = .agg cs.toArray := by
  unfold Value.okWide at hval
  rw [ht] at hval
  obtain ⟨cs, rfl, _⟩ := hval
  exact ⟨cs.toList, by simp⟩
theorem i64_cell {m : Nat} {cs : List Value} {x : DataW H × List MemPlace} (ht : P.underlying t = some (.int .i64)) (h : DataW.trod enc P W base sp hd m t cs = some x) : ∃ n : Int, cs = [.int .i64 n] ∧ -9223372036854775808 ≤ n ∧ n ≤ 9223372036854775807 := by
  obtain ⟨n, hn, _, hwf⟩ := DataW.trod_int ht h
  refine ⟨n, hn, ?_⟩
  simp [Lit.wf, IntKind.min, IntKind.max, IntKind.signed, IntKind.bits] at hwf
  omega
theorem str_cell {m : Nat} {cs : List Value} {x : DataW H × List MemPlace} (ht : P.underlying t = some .string) (h : DataW.trod enc P W base sp hd m t cs = some x) : ∃ l : Bytes, cs = [.string (bs l)] ∧ l.length ≤ maxLen := by
  obtain ⟨s, hs, _, hl⟩ := DataW.trod_string ht h
  exact ⟨s.data.toList, by rw [bs_of]; exact hs, hl⟩
theorem hash_cell {m : Nat} {cs : List Value} {x : DataW H × List MemPlace} (ht : P.underlying t = some (.array 32 u)) (hu : P.underlying u = some (.int .u8)) (hcu : P.cellsOf u = 1) (hct : P.cellsOf t = 32) (h : DataW.trod enc P W base sp hd m t cs = some x) : ∃ g : Hash, cs = hc g :=
  hash_of (bytes_of_trod ht hu hcu hct h)
theorem hashv_of (ht : P.underlying t = some (.array 32 u)) (hu : P.underlying u = some (.int .u8)) (hcu : P.cellsOf u = 1) (hct : P.cellsOf t = 32) (hval : Value.okWide P W r b0 t v) (h : DataW.Trod enc P W base sp hd t v d ps) : ∃ g : Hash, v = HV g := by
  obtain ⟨cs, rfl⟩ := array_of ht hval
  obtain ⟨m, hm⟩ := h
  obtain ⟨g, hg⟩ := hash_cell ht hu hcu hct hm
  refine ⟨g, ?_⟩
  have : cs = hc g := hg
  rw [this]; rfl
theorem cut_at (cs : List Value) (a b : Nat) : cs.drop a = (cs.drop a).take b ++ cs.drop (a + b) := by rw [← List.drop_drop, List.take_append_drop]
end
end Go.Proofs.YtahdekllphehkaaDoor
namespace Go.Proofs.YtahdekllphehkaaDoor
open Go.ChangeShapes Go.WideShapes Go.ChangeAt Go.RowKit Go.WL Go.Spec
section
variable {H : Type} {enc : TypeId × Value → H} {P : Program} {W : World} {base b0 : Nat} {sp : Nat → Bool} {hd : Bool} {r : Reach} {t e u : TypeId} {v : Value} {d : DataW H} {ps : List MemPlace}
theorem arr_at {k m i : Nat} {cs : List Value} {x : DataW H × List MemPlace} (ht : P.underlying t = some (.array k e)) (h : DataW.trod enc P W base sp hd m t cs = some x) (hi : i < k) (c : Nat) (hc : P.cellsOf e = c) :
    ∃ m' y, DataW.trod enc P W base sp hd m' e ((cs.drop (i * c)).take c) = some y := by
  obtain ⟨xs, m', rfl, _, hlen, hxl, hat⟩ := DataW.trod_array ht h
  have h1 := hat i hi
  rw [hc, List.getElem?_eq_getElem (by omega)] at h1
  exact ⟨m', _, h1⟩
theorem arr_length {k m : Nat} {cs : List Value} {x : DataW H × List MemPlace} (ht : P.underlying t = some (.array k e)) (h : DataW.trod enc P W base sp hd m t cs = some x) : cs.length = P.cellsOf t := by
  obtain ⟨_, _, _, _, hlen, _, _⟩ := DataW.trod_array ht h
  exact hlen
end
end Go.Proofs.YtahdekllphehkaaDoor
namespace Go.Proofs.YtahdekllphehkaaDoor
open Go.ChangeShapes Go.WideShapes Go.ChangeAt Go.RowKit Go.WL Go.Spec
section
variable {H : Type} {enc : TypeId × Value → H} {P : Program} {W : World} {base b0 : Nat} {sp : Nat → Bool} {hd : Bool} {r : Reach} {t e u : TypeId} {v : Value} {d : DataW H} {ps : List MemPlace}
theorem u16_cell {m : Nat} {cs : List Value} {x : DataW H × List MemPlace} (ht : P.underlying t = some (.int .u16)) (h : DataW.trod enc P W base sp hd m t cs = some x) : ∃ n : Int, cs = [.int .u16 n] ∧ 0 ≤ n ∧ n ≤ 65535 := by
  obtain ⟨n, hn, _, hwf⟩ := DataW.trod_int ht h
  refine ⟨n, hn, ?_⟩
  simp [Lit.wf, IntKind.min, IntKind.max, IntKind.signed, IntKind.bits] at hwf
  omega
end
end Go.Proofs.YtahdekllphehkaaDoor
