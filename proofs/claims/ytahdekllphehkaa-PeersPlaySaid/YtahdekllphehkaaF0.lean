/- The frame of the laws of the seat; no statement of the seat is proved here. -/
import Derived.Test.YtahdekllphehkaaDoorML
import Derived.Test.YtahdekllphehkaaRows
import Derived.WalkKit
import Derived.ProofKit
import Derived.OpenShut
import Derived.Carry
import Derived.Deep.DeepHandedRow
import Derived.Lib.LaidTab
import Derived.Stop.LaidErr
import Derived.ChangeMaps5
import Derived.ChangeArms
set_option linter.unusedVariables false
set_option linter.unusedSimpArgs false
namespace Go.Proofs.Ytahdekllphehkaa
open Go.ChangeShapes Go.WideShapes Go.ChangeAt Go.RowKit Go.WL Go.Spec

section
variable {H : Type} {enc : TypeId × Value → H} {P : Program}

theorem trodAll_below {W W' : World} (hl : laidOutB P = true) (hb : Below W.heap.size W W') (sp : Nat → Bool) : ∀ (ts : List TypeId) (vs : List Value) (ds : List (DataW H)) (ps : List MemPlace),
    (∀ t ∈ ts, P.readableRec t = true ∧ t < P.types.size) → DataW.TrodAll enc P W 0 (fun _ => true) true ts vs ds ps → (∀ x ∈ ps, x.block < W.heap.size) → (∀ x ∈ ps, sp x.block = true) → DataW.TrodAll enc P W' 0 sp true ts vs ds ps
  | [], [], [], _, _, h, _, _ => h
  | t :: ts, v :: vs, d :: ds, ps, ht, h, hlt, hsp => by
    obtain ⟨p, q, h1, h2, rfl⟩ := h
    refine ⟨p, q, WideElems.Trod_stays hl (ht t (by simp)).1 (ht t (by simp)).2 h1 (fun x hx => hb.same (hlt x (by simp [hx]))) (fun x hx => hsp x (by simp [hx])), ?_, rfl⟩
    exact trodAll_below hl hb sp ts vs ds q (fun t' h' => ht t' (by simp [h'])) h2 (fun x hx => hlt x (by simp [hx])) (fun x hx => hsp x (by simp [hx]))
  | [], _ :: _, _, _, _, h, _, _ => h.elim
  | [], [], _ :: _, _, _, h, _, _ => h.elim
  | _ :: _, [], _, _, _, h, _, _ => h.elim
  | _ :: _, _ :: _, [], _, _, h, _, _ => h.elim

/-- A law that told true and turned nothing that was there. -/
theorem law_post {f : Func} {s : ChangeSpec} {fresh handsOn again : Bool} {W W' : World} {args : Array Value} {ds gs : List (DataW H)} {before : List MemPlace} {t : TypeId}
    (hl : laidOutB P = true) (hW : DataW.Whole enc P f.params.toList s.vars false W args.toList ds gs before) (hvars : s.vars = []) (hr : f.resultTypes = #[t]) (ht : P.underlying t = some .bool)
    (hpar : ∀ t ∈ f.params.toList, P.readableRec t = true ∧ t < P.types.size) (hs : s.fn H (ds ++ gs) = { results := [.lit (.bool true)], args := ds }) (hb : Below W.heap.size W W') :
    s.post enc P f false fresh handsOn again W args (.bool true) W' := by
  have hlt0 := fun p hp => hW.lt (p := p) hp
  have hlt : ∀ x ∈ before, x.block < W.heap.size := fun x hx => by simpa using hlt0 x hx
  obtain ⟨p, q, h1, h2, e, hz, hn⟩ := id hW
  rw [hvars] at h2
  have hgs : gs = [] ∧ q = [] := by
    cases gs with
    | nil => exact ⟨rfl, h2⟩
    | cons _ _ => exact h2.elim
  obtain ⟨rfl, rfl⟩ := hgs
  rw [List.append_nil] at e
  subst e
  have hargs : ∀ sp : Nat → Bool, (∀ x ∈ before, sp x.block = true) → DataW.TrodAll enc P W' 0 sp true f.params.toList args.toList ds before := fun sp hsp => trodAll_below hl hb sp _ _ _ _ hpar h1 hlt hsp
  have hres : ∀ (b : Nat) (sp : Nat → Bool) (hd : Bool), DataW.TrodAll enc P W' b sp hd f.resultTypes.toList ((Value.bool true).resultList f.resultTypes.size) [.lit (.bool true)] [] := fun b sp hd => by
    rw [hr]; exact ⟨[], [], shut_bool ht true, rfl, rfl⟩
  have hold : ∀ p ∈ before, (fun b => decide (b < W.heap.size)) p.block = true := fun p hp => by simpa using hlt p hp
  refine ⟨ds, [], before, [], before, [], hW, ?_, ?_, ?_, World.keptBut_mono (fun p hp => ⟨hp, .inr (by simpa using hp)⟩) (hb.frame (· ∈ before)), fun _ => ?_⟩
  · rw [hs]; exact hres _ _ _
  · rw [hs]; exact hargs _ hold
  · rw [hs, hvars]; exact rfl
  · refine ⟨ok_one hr rfl (okWide_bool_mk ht _), ?_⟩
    rw [hvars]
    refine ⟨_, [], ([] ++ before) ++ [], ⟨[] ++ before, [], trodAll_append (hargs _ (fun _ _ => rfl)) (hres _ _ _), rfl, rfl, ?_, ?_⟩, ?_⟩
    · intro b off hp
      have hp' : MemPlace.cell b off ∈ before := by simpa using hp
      rw [hb.frozen (hlt _ hp')]
      exact hz b off hp'
    · intro ha; cases ha
    · intro p hp _
      simpa using hp

theorem cells_of {w : World} {base k : Nat} {a : Addr} {cs : List Value} (h : w.cells? base a k = some cs) : cs.length = k ∧ ∀ i, i < k → w.cell? (a.add i) = cs[i]? := by
  unfold World.cells? at h
  split at h
  · have h1 := Lib.mapM_length h
    refine ⟨by simpa using h1, fun i hi => ?_⟩
    obtain ⟨b, hb, hf⟩ := Lib.mapM_at h i i (by simp [hi])
    rw [hb, hf]
  · cases h

theorem list_of {α : Type} {p : Nat → α → Prop} {k : Nat} (h : ∀ i, i < k → ∃ a, p i a) : ∃ l : List α, l.length = k ∧ ∀ i a, l[i]? = some a → p i a := by
  induction k with
  | zero => exact ⟨[], rfl, fun i a h => by simp at h⟩
  | succ k ih =>
    obtain ⟨l, hl, hp⟩ := ih fun i hi => h i (by omega)
    obtain ⟨a, ha⟩ := h k (by omega)
    refine ⟨l ++ [a], by simp [hl], fun i b hb => ?_⟩
    rcases Nat.lt_or_ge i k with hi | hi
    · rw [List.getElem?_append_left (by omega)] at hb; exact hp i b hb
    · rw [List.getElem?_append_right (by omega), hl] at hb
      have : i = k := by
        rcases Nat.lt_or_ge i (k + 1) with h1 | h1
        · omega
        · rw [List.getElem?_eq_none (by simp; omega)] at hb; cases hb
      subst this
      rw [Nat.sub_self] at hb
      simp at hb
      subst hb
      exact ha
/-- Bytes in an array. -/
theorem bytes_of_trod {W : World} {base : Nat} {sp : Nat → Bool} {hd : Bool} {m t e k : Nat} {cs : List Value} {x : DataW H × List MemPlace} (ht : P.underlying t = some (.array k e)) (he : P.underlying e = some (.int .u8)) (hc : P.cellsOf e = 1) (hct : P.cellsOf t = k)
    (h : DataW.trod enc P W base sp hd m t cs = some x) : ∃ l : Bytes, l.length = k ∧ cs = bc l := by
  obtain ⟨xs, m', rfl, rfl, hlen, hxl, hat⟩ := DataW.trod_array ht h
  rw [hct] at hlen
  have hel : ∀ i, i < k → ∃ b : UInt8, cs[i]? = some (U8 b) := by
    intro i hi
    have h1 := hat i hi
    rw [hc, Nat.mul_one, List.getElem?_eq_getElem (by omega)] at h1
    obtain ⟨n, hn, hx, hwf⟩ := DataW.trod_int he h1
    have hn' : cs[i]? = some (.int .u8 n) := by
      have : ((cs.drop i).take 1)[0]? = some (.int .u8 n) := by rw [hn]; rfl
      simpa using this
    have hr : 0 ≤ n ∧ n < 256 := by
      have := hwf
      simp [Lit.wf, IntKind.min, IntKind.max, IntKind.signed, IntKind.bits] at this
      omega
    refine ⟨UInt8.ofNat n.toNat, ?_⟩
    rw [hn']
    congr 2
    have : n.toNat < 256 := by omega
    simp [UInt8.toNat_ofNat', Nat.mod_eq_of_lt this, hr.1]
    omega
  obtain ⟨l, hl, hp⟩ := list_of hel
  refine ⟨l, hl, ?_⟩
  apply List.ext_getElem?
  intro i
  rw [bc, List.getElem?_map]
  by_cases hi : i < k
  · rw [List.getElem?_eq_getElem (show i < l.length by omega), hp i _ (List.getElem?_eq_getElem (show i < l.length by omega))]
    rfl
  · rw [List.getElem?_eq_none (by omega), List.getElem?_eq_none (by omega)]
    rfl
theorem hc_hashOf (l : Bytes) (h : l.length = 32) : hc (hashOf l h) = bc l := by
  unfold hc hashOf Vector.toList; rfl
theorem hash_of {cs : List Value} (h : ∃ l : Bytes, l.length = 32 ∧ cs = bc l) : ∃ v : Hash, cs = hc v := by
  obtain ⟨l, hl, rfl⟩ := h
  exact ⟨hashOf l hl, (hc_hashOf l hl).symm⟩
/-- A slice of hashes as it was read. -/
theorem hsAt_of_trod {W : World} {t e u m : Nat} {cs : List Value} {x : DataW H × List MemPlace} {sp : Nat → Bool} {hd : Bool} (ht : P.underlying t = some (.slice e)) (he : P.underlying e = some (.array 32 u)) (hu : P.underlying u = some (.int .u8)) (hcu : P.cellsOf u = 1) (hce : P.cellsOf e = 32)
    (h : DataW.trod enc P W 0 sp hd m t cs = some x) : ∃ v l, cs = [v] ∧ HsAt W v l ∧ v.oneCell' = true := by
  rcases DataW.trod_slice ht h with ⟨rfl, _⟩ | ⟨a, len, cap, elems, rest, n, _, rfl, rfl, _, hl, hm, hlen, hel, _, _⟩
  · exact ⟨_, [], rfl, ⟨none, 0, rfl, Nat.le_refl _, .inl rfl⟩, rfl⟩
  · rw [hce] at hel
    have hex : ∀ i, i < len → ∃ v : Hash, ∀ j u, (hc v)[j]? = some u → W.cell? ((a.add (i * 32)).add j) = some u := by
      intro i hi
      have h1 := hel i hi
      rw [List.getElem?_eq_getElem (by omega)] at h1
      obtain ⟨cs', hc1, hc2⟩ := Option.bind_eq_some_iff.1 h1
      obtain ⟨v, rfl⟩ := hash_of (bytes_of_trod he hu hcu hce hc2)
      refine ⟨v, fun j u hj => ?_⟩
      have hj' : j < 32 := by
        rcases Nat.lt_or_ge j 32 with h | h
        · exact h
        · rw [List.getElem?_eq_none (by rw [hc_length]; exact h)] at hj; cases hj
      rw [(cells_of hc1).2 j hj', hj]
    obtain ⟨l, hll, hl2⟩ := list_of hex
    refine ⟨_, l, rfl, ⟨some a, cap, by rw [hll], by omega, ?_⟩, rfl⟩
    by_cases h0 : l = []
    · exact .inl h0
    · obtain ⟨b, off, spot⟩ := a
      have hpos : 0 < l.length := List.length_pos_iff.2 h0
      have hspot : spot = none := by
        have h1 := hl2 0 _ (List.getElem?_eq_getElem hpos) 0 (U8 (l[0].toList[0]'(by simp))) (by simp [hc, bc])
        simp only [Nat.zero_mul, Addr.add, if_true] at h1
        cases spot with
        | none => rfl
        | some s => simp [World.cell?] at h1; split at h1 <;> simp at h1
      subst hspot
      refine .inr ⟨b, off, rfl, fun j u hj => ?_⟩
      have hjl : j < 32 * l.length := by
        rcases Nat.lt_or_ge j (32 * l.length) with h | h
        · exact h
        · rw [List.getElem?_eq_none (by rw [flat_length]; exact h)] at hj; cases hj
      have hk : j / 32 < l.length := by omega
      have hq : j % 32 < 32 := Nat.mod_lt _ (by decide)
      have e1 : 32 * (j / 32) + j % 32 = j := by omega
      have h2 := hl2 (j / 32) _ (List.getElem?_eq_getElem hk) (j % 32) u (by rw [← flat_at l _ _ hk hq, e1]; exact hj)
      rw [add_mk, add_mk] at h2
      rwa [show off + j / 32 * 32 + j % 32 = off + j by omega] at h2
theorem cells_one' {v : Value} (h : Value.oneCell' v = true) : v.cells.toList = [v] := by rw [cells_one h]
end
end Go.Proofs.Ytahdekllphehkaa
namespace Go.Proofs.Ytahdekllphehkaa
open Go.ChangeShapes Go.WideShapes Go.ChangeAt Go.RowKit Go.WL Go.Spec
section
variable {H : Type} {enc : TypeId × Value → H} {P : Program} {W : World} {base b0 : Nat} {sp : Nat → Bool} {hd : Bool} {r : Reach} {t e u : TypeId} {v : Value} {d : DataW H} {ps : List MemPlace}
theorem int_of {k : IntKind} (ht : P.underlying t = some (.int k)) (hval : Value.okWide P W r b0 t v) (h : DataW.Trod enc P W base sp hd t v d ps) : ∃ n : Int, v = .int k n ∧ (Lit.int k n).wf = true := by
  obtain ⟨m, hm⟩ := h
  obtain ⟨n, hn, _, hwf⟩ := DataW.trod_int ht hm
  refine ⟨n, ?_, hwf⟩
  simp only [Value.okWide, ht, Cell.okWide] at hval
  cases v <;> simp_all [Cell.ok, Value.cells]
theorem u8_of (ht : P.underlying t = some (.int .u8)) (hval : Value.okWide P W r b0 t v) (h : DataW.Trod enc P W base sp hd t v d ps) : ∃ x : UInt8, v = U8 x := by
  obtain ⟨n, rfl, hwf⟩ := int_of ht hval h
  have hr : 0 ≤ n ∧ n < 256 := by
    simp [Lit.wf, IntKind.min, IntKind.max, IntKind.signed, IntKind.bits] at hwf
    omega
  refine ⟨UInt8.ofNat n.toNat, ?_⟩
  have : n.toNat < 256 := by omega
  congr 1
  simp [UInt8.toNat_ofNat', Nat.mod_eq_of_lt this]
  omega
theorem i64_of (ht : P.underlying t = some (.int .i64)) (hval : Value.okWide P W r b0 t v) (h : DataW.Trod enc P W base sp hd t v d ps) : ∃ n : Int, v = .int .i64 n ∧ -9223372036854775808 ≤ n ∧ n ≤ 9223372036854775807 := by
  obtain ⟨n, rfl, hwf⟩ := int_of ht hval h
  refine ⟨n, rfl, ?_⟩
  simp [Lit.wf, IntKind.min, IntKind.max, IntKind.signed, IntKind.bits] at hwf
  omega
theorem str_of (ht : P.underlying t = some .string) (hval : Value.okWide P W r b0 t v) (h : DataW.Trod enc P W base sp hd t v d ps) : ∃ l : Bytes, v = .string (bs l) ∧ l.length ≤ maxLen := by
  obtain ⟨s, rfl, _, _, hs⟩ := Go.ChangeMaps.open_string ht hval h
  exact ⟨s.data.toList, by rw [bs_of], hs⟩
theorem flat_of_parts {cs : List Value} {l : List Hash} (hlen : cs.length = 32 * l.length) (h : ∀ i v, l[i]? = some v → (cs.drop (i * 32)).take 32 = hc v) : cs = l.flatMap hc := by
  induction l generalizing cs with
  | nil => exact List.eq_nil_of_length_eq_zero (by simpa using hlen)
  | cons a l ih =>
    have h0 := h 0 a rfl
    simp only [Nat.zero_mul, List.drop_zero] at h0
    rw [List.flatMap_cons, ← h0]
    conv => lhs; rw [← List.take_append_drop 32 cs]
    congr 1
    refine ih (by rw [List.length_drop, hlen, List.length_cons]; omega) fun i v hv => ?_
    have := h (i + 1) v (by simpa using hv)
    rw [List.drop_drop]
    rwa [show 32 + i * 32 = (i + 1) * 32 by omega]
theorem hash_arr_of {k : Nat} (ht : P.underlying t = some (.array k e)) (he : P.underlying e = some (.array 32 u)) (hu : P.underlying u = some (.int .u8)) (hcu : P.cellsOf u = 1) (hce : P.cellsOf e = 32) (hct : P.cellsOf t = 32 * k)
    (hval : Value.okWide P W r b0 t v) (h : DataW.Trod enc P W base sp hd t v d ps) : ∃ l : List Hash, l.length = k ∧ v = .agg (l.flatMap hc).toArray := by
  have hv : ∃ cs, v = .agg cs := by
    unfold Value.okWide at hval
    rw [ht] at hval
    obtain ⟨cs, rfl, _⟩ := hval
    exact ⟨cs, rfl⟩
  obtain ⟨cs, rfl⟩ := hv
  obtain ⟨m, hm⟩ := h
  obtain ⟨xs, m', rfl, _, hlen, hxl, hat⟩ := DataW.trod_array ht hm
  rw [hct] at hlen
  have hex : ∀ i, i < k → ∃ v : Hash, ((Value.agg cs).cells.toList.drop (i * 32)).take 32 = hc v := by
    intro i hi
    have h1 := hat i hi
    rw [hce, List.getElem?_eq_getElem (by omega)] at h1
    exact hash_of (bytes_of_trod he hu hcu hce h1)
  obtain ⟨l, hl, hp⟩ := list_of hex
  refine ⟨l, hl, ?_⟩
  have := flat_of_parts (by rw [hl]; exact hlen) hp
  rw [← this]
  simp [Value.cells]
end
end Go.Proofs.Ytahdekllphehkaa
namespace Go.Proofs.Ytahdekllphehkaa
open Go.ChangeShapes Go.WideShapes Go.ChangeAt Go.RowKit Go.WL Go.Spec
section
variable {H : Type} {enc : TypeId × Value → H} {P : Program} {W : World} {base b0 : Nat} {sp : Nat → Bool} {hd : Bool} {r : Reach} {t e u : TypeId} {v : Value} {d : DataW H} {ps : List MemPlace}
theorem part_of {fs : Array Field} {f : Field} {m i : Nat} {cs : List Value} {x : DataW H × List MemPlace} (ht : P.underlying t = some (.struct fs)) (h : DataW.trod enc P W base sp hd m t cs = some x) (hf : fs[i]? = some f) :
    ∃ m' y, DataW.trod enc P W base sp hd m' f.type ((cs.drop f.offset).take (P.cellsOf f.type)) = some y := by
  obtain ⟨xs, m', _, _, _, hl, hat⟩ := DataW.trod_struct ht h
  have hi : i < xs.length := by
    rw [hl]
    rcases Nat.lt_or_ge i fs.size with h1 | h1
    · exact h1
    · rw [Array.getElem?_eq_none h1] at hf; cases hf
  exact ⟨m', xs[i], by rw [hat i f hf, List.getElem?_eq_getElem hi]⟩
theorem part_at {fs : Array Field} {m i : Nat} {cs : List Value} {x : DataW H × List MemPlace} (ht : P.underlying t = some (.struct fs)) (h : DataW.trod enc P W base sp hd m t cs = some x) (off : Nat) (T : TypeId) (k : Nat) (hf : (fs[i]?).map (fun f => (f.offset, f.type)) = some (off, T)) (hk : P.cellsOf T = k) :
    ∃ m' y, DataW.trod enc P W base sp hd m' T ((cs.drop off).take k) = some y := by
  obtain ⟨f, hf1, hf2⟩ := Option.map_eq_some_iff.1 hf
  obtain ⟨m', y, hy⟩ := part_of ht h hf1
  simp only [Prod.mk.injEq] at hf2
  obtain ⟨rfl, rfl⟩ := hf2
  exact ⟨m', y, by rw [← hk]; exact hy⟩
theorem struct_length {fs : Array Field} {m : Nat} {cs : List Value} {x : DataW H × List MemPlace} (ht : P.underlying t = some (.struct fs)) (h : DataW.trod enc P W base sp hd m t cs = some x) : cs.length = P.cellsOf t := by
  obtain ⟨_, _, _, _, hl, _⟩ := DataW.trod_struct ht h
  exact hl
theorem struct_of {fs : Array Field} (ht : P.underlying t = some (.struct fs)) (hval : Value.okWide P W r b0 t v) : ∃ cs : List Value, v = .agg cs.toArray := by
  unfold Value.okWide at hval
  rw [ht] at hval
  obtain ⟨cs, rfl, _⟩ := hval
  exact ⟨cs.toList, by simp⟩
theorem array_of {k : Nat} (ht : P.underlying t = some (.array k e)) (hval : Value.okWide P W r b0 t v) : ∃ cs : List Value, v = .agg cs.toArray := by
  unfold Value.okWide at hval
  rw [ht] at hval
  obtain ⟨cs, rfl, _⟩ := hval
  exact ⟨cs.toList, by simp⟩
theorem i64_cell {m : Nat} {cs : List Value} {x : DataW H × List MemPlace} (ht : P.underlying t = some (.int .i64)) (h : DataW.trod enc P W base sp hd m t cs = some x) : ∃ n : Int, cs = [.int .i64 n] ∧ -9223372036854775808 ≤ n ∧ n ≤ 9223372036854775807 := by
  obtain ⟨n, hn, _, hwf⟩ := DataW.trod_int ht h
  refine ⟨n, hn, ?_⟩
  simp [Lit.wf, IntKind.min, IntKind.max, IntKind.signed, IntKind.bits] at hwf
  omega
theorem str_cell {m : Nat} {cs : List Value} {x : DataW H × List MemPlace} (ht : P.underlying t = some .string) (h : DataW.trod enc P W base sp hd m t cs = some x) : ∃ l : Bytes, cs = [.string (bs l)] ∧ l.length ≤ maxLen := by
  obtain ⟨s, hs, _, hl⟩ := DataW.trod_string ht h
  exact ⟨s.data.toList, by rw [bs_of]; exact hs, hl⟩
theorem hash_cell {m : Nat} {cs : List Value} {x : DataW H × List MemPlace} (ht : P.underlying t = some (.array 32 u)) (hu : P.underlying u = some (.int .u8)) (hcu : P.cellsOf u = 1) (hct : P.cellsOf t = 32) (h : DataW.trod enc P W base sp hd m t cs = some x) : ∃ g : Hash, cs = hc g :=
  hash_of (bytes_of_trod ht hu hcu hct h)
theorem hashv_of (ht : P.underlying t = some (.array 32 u)) (hu : P.underlying u = some (.int .u8)) (hcu : P.cellsOf u = 1) (hct : P.cellsOf t = 32) (hval : Value.okWide P W r b0 t v) (h : DataW.Trod enc P W base sp hd t v d ps) : ∃ g : Hash, v = HV g := by
  obtain ⟨cs, rfl⟩ := array_of ht hval
  obtain ⟨m, hm⟩ := h
  obtain ⟨g, hg⟩ := hash_cell ht hu hcu hct hm
  refine ⟨g, ?_⟩
  have : cs = hc g := hg
  rw [this]; rfl
theorem cut_at (cs : List Value) (a b : Nat) : cs.drop a = (cs.drop a).take b ++ cs.drop (a + b) := by rw [← List.drop_drop, List.take_append_drop]

end
end Go.Proofs.Ytahdekllphehkaa
